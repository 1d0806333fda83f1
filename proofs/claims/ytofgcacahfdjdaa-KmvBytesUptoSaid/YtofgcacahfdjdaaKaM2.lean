/- What the laws of this folder share, part 2: walks of functions over their Go text, and plain lemmas. Conditions: as each lemma says. -/
import Derived.Laws.MakeOwn
import Derived.BigQuiet
import Derived.Test.YtofgcacahfdjdaaRows
import Derived.Sort.AssemblyPlain
import Derived.Sort.WalkA
import Derived.Deep.CutBlock
import Derived.Lib.Hide
import Derived.Sort.WalkB3
import Derived.Sort.WalkB12
import Derived.Outline
import Derived.Sort.WalkA6
import Derived.Deep.DeepCutAuto
import Derived.Sort.WalkC4
import Derived.Sort.Walk7a
import Derived.Sort.LotD2
import Derived.Sort.LotD3
import Derived.Sort.LotB
import Derived.Sort.LotC
import Derived.Deep.LoopGhost
import Derived.Maps.RangeWalk
import Derived.Maps.OwnSet
import Derived.Maps.OwnOps
import Derived.Maps.Views
import Derived.WalkKit
import Derived.WalkMore
import Derived.StillTail
import Derived.Test.YtofgcacahfdjdaaKaM1
namespace Go.Proofs.Ytofgcacahfdjdaa
set_option linter.unusedVariables false
set_option linter.unusedSimpArgs false
open Go.RowKit Go.Proofs.YtofgcacahfdjdaaW.PrintWords Go.Proofs.YtofgcacahfdjdaaW.PrintLast Go.Proofs.YtofgcacahfdjdaaW.PrintMore Go.Proofs.Ytofgcacahfdjdaa.Pure Go.Proofs.Ytofgcacahfdjdaa.Hi Go.Proofs.Ytofgcacahfdjdaa.Vt
/-- So many more numbers, each above the one before, behind acc. -/
def riseGo (b : List Int) : Nat → Nat → List Int → Option (List Int × Nat)
  | 0, p, acc => some (acc, p)
  | c + 1, p, acc => match numAt b (p : Int) with
    | none => none
    | some (v, q) => if acc.length = 0 then riseGo b c q [(v : Int)] else
      if rd acc ((acc.length - 1 : Nat) : Int) = 18446744073709551615 ∨ (v : Int) > 18446744073709551615 - rd acc ((acc.length - 1 : Nat) : Int) - 1 then none else riseGo b c q (acc ++ [(v : Int) + (rd acc ((acc.length - 1 : Nat) : Int) + 1)])
def riseAt (b : List Int) (a : Int) (most : Nat) : Option (List Int × Nat) := match numAt b a with
  | none => none
  | some (n, p) => if n > most ∨ n > b.length - p then none else riseGo b n p []
theorem numGo_at (b : List Int) : ∀ (r p acc v q : Nat), numGo b r p acc = some (v, q) → p < q ∧ q ≤ b.length := by
  intro r
  induction r with
  | zero => intro p acc v q h; simp [numGo] at h
  | succ r ih =>
    intro p acc v q h
    rw [numGo] at h
    split at h
    case isTrue hp =>
      split at h
      · cases h
      · split at h
        · split at h
          · cases h
          · injection h with h; injection h with _ h; omega
        · have := ih _ _ _ _ h; omega
    case isFalse => cases h
theorem numGo_small {b : List Int} (hb : WBy b) : ∀ (r i p acc v q : Nat), r + i = 10 → acc < 2 ^ (7 * i) → numGo b r p acc = some (v, q) → v < 18446744073709551616 := by
  intro r
  induction r with
  | zero => intro i p acc v q _ _ h; simp [numGo] at h
  | succ r ih =>
    intro i p acc v q hi ha h
    rw [numGo] at h
    split at h
    case isTrue hp =>
      obtain ⟨x, hx, hx2⟩ := rd_byte hb hp
      rw [hx, Int.toNat_natCast, show 9 - r = i by omega] at h
      split at h
      · cases h
      case isFalse h1 =>
        have h9 : i = 9 → x ≤ 1 := fun e => by
          rcases Nat.lt_or_ge 1 x with c | c
          · exact absurd ⟨by omega, c⟩ h1
          · exact c
        have ns := next_small acc x i ha (by omega) h9
        split at h
        case isTrue hlt =>
          split at h
          · cases h
          · injection h with h
            injection h with h _
            rw [show x % 128 = x by omega] at ns
            omega
        case isFalse hge =>
          rcases Nat.lt_or_ge i 9 with d | d
          · exact ih (i + 1) _ _ _ _ (by omega) ns.1 h
          · have := h9 (by omega); omega
    case isFalse => cases h
theorem numAt_at {b : List Int} (hb : WBy b) {a : Int} {v q : Nat} (h : numAt b a = some (v, q)) : 0 ≤ a ∧ a < q ∧ q ≤ b.length ∧ v < 18446744073709551616 := by
  unfold numAt at h
  split at h
  · cases h
  · have := numGo_at b _ _ _ _ _ h
    have := numGo_small hb 10 0 _ _ _ _ (by omega) (by decide) h
    omega
def RisePost (o : Option (List Int × Nat)) (w : World) (e : Ending) (w' : World) : Prop :=
  Below w.heap.size w w' ∧ (∀ l q, o = some (l, q) → ∃ r, e = .returned (.tuple #[r, .int .i64 (q : Int), .bool true]) ∧ Kd.R (Kd.int .u64) 49 w' w.heap.size (fun _ => True) r l) ∧ (o = none → e = .returned (.tuple #[.slice none 0 0, .int .i64 0, .bool false]))
theorem RisePost.no {o : Option (List Int × Nat)} {w w' : World} (h : o = none) (hb : Below w.heap.size w w') : RisePost o w (.returned (.tuple #[.slice none 0 0, .int .i64 0, .bool false])) w' :=
  ⟨hb, (fun l q e => by rw [h] at e; cases e), fun _ => rfl⟩
theorem vget_any {A : Option Addr} {c : Nat} {b : List Int} (hb : WBy b) (a : Int) {W : World} (hC : Kd.C (Kd.int .u8) W A b.length b) (hc : b.length ≤ c) {v n : Int} {ok : Bool} (h : getR (numAt b a) = (v, n, ok)) :
    Calls Try.prog 61 #[.slice A b.length c, .int .i64 a] W fun e w' => e = .returned (.tuple #[.int .u64 v, .int .i64 n, .bool ok]) ∧ Below W.heap.size W w' :=
  (vint_Get.calls 40 A c b a v n ok W hC hc (by rw [vget_eq hb a, h])).mono fun _ _ h => ⟨h.1, h.2.below⟩
theorem info64 : (Try.prog.info? 49).map (fun i => (i.zero, i.size, i.bytes)) = some (some (.int .u64 0), 1, 8) := by kernel_rfl
theorem make64 (n : Nat) (hn : n ≤ 1000000) (W : World) : Sem.run Try.prog (Instr.makeSlice 39 (.int .i64 0) (.int .i64 (n : Int))) W = .ok (.slice (some ⟨W.heap.size, 0, none⟩) 0 n) (W.alloc (.cells (madeCells (Value.cells (.int .u64 0)) n) 49)) := by
  obtain ⟨i, hi, hzz⟩ := Option.map_eq_some_iff.1 info64
  simp only [Prod.mk.injEq] at hzz
  obtain ⟨hz0, hz1, hz2⟩ := hzz
  have h := run_make (P := Try.prog) W 39 49 i (.int .u64 0) (by kernel_rfl) hi hz0 .i64 .i64 0 n (Int.le_refl _) (by omega) (by rw [hz2]; omega) (by omega)
  rw [hz1, Int.toNat_natCast, Nat.mul_one] at h
  exact h
theorem made64 (n : Nat) (hn : n ≤ 1000000) {W : World} {base : Nat} (hb : base ≤ W.heap.size) : Kd.R (Kd.int .u64) 49 (W.alloc (.cells (madeCells (Value.cells (.int .u64 0)) n) 49)) base (fun _ => True) (.slice (some ⟨W.heap.size, 0, none⟩) 0 n) [] :=
  ⟨fun _ _ => trivial, [], World.ownsRow_made W _ n hb (by simp [maxLen]; omega) (by rw [size_madeCells]; exact (Nat.mul_one n).symm), Reps.none _ _⟩
set_option maxHeartbeats 8000000 in
set_option maxRecDepth 100000 in
theorem getRise_any {A : Option Addr} {c : Nat} {b : List Int} (hb : WBy b) (a : Int) (most : Nat) (hm : most ≤ 1000000) {w : World} (hC : Kd.C (Kd.int .u8) w A b.length b) (hc : b.length ≤ c) (hl : b.length ≤ 140737488355328) :
    Calls Try.prog 48 #[.slice A b.length c, .int .i64 a, .int .i64 (most : Int)] w (RisePost (riseAt b a most) w) := by
  cases h0 : numAt b a with
  | none =>
    have HG := Lib.hid (vget_any hb a hC hc (v := 0) (n := 0) (ok := false) (by simp [h0, getR]))
    have HE := Lib.hid (show riseAt b a most = none by unfold riseAt; rw [h0])
    clear h0 hC hc hb
    go_enter Try.func48, Try.ntmps48
    go_wp2_with (go_at_call 61; (with_reducible refine HG.out.mono ?_); rintro e w1 ⟨rfl, hb1⟩; have HB := Lib.hid hb1; clear hb1 HG)
    go_ret3
    exact RisePost.no HE.out HB.out
  | some x =>
    obtain ⟨n, p⟩ := x
    obtain ⟨ha0, hap, hpl, hn64⟩ := numAt_at hb h0
    have HG := Lib.hid (vget_any hb a hC hc (v := n) (n := p) (ok := true) (by simp [h0, getR]))
    have HB := Lib.hid hb; have HC := Lib.hid hC; have HCL := Lib.hid hc
    by_cases hnm : n > most
    · have HE := Lib.hid (show riseAt b a most = none by unfold riseAt; rw [h0]; simp [hnm])
      have e1 : decide ((most : Int) < (n : Int)) = true := decide_eq_true (by omega)
      have e1b : decide (most < n) = true := decide_eq_true hnm
      clear h0 hC hc hb
      go_enter Try.func48, Try.ntmps48
      go_wp2_with (go_at_call 61; (with_reducible refine HG.out.mono ?_); rintro e w1 ⟨rfl, hb1⟩; have HB1 := Lib.hid hb1; clear hb1 HG)
      go_ret3
      exact RisePost.no HE.out HB1.out
    · have e1 : decide ((most : Int) < (n : Int)) = false := decide_eq_false (by omega)
      have e1b : decide (most < n) = false := decide_eq_false hnm
      have e3 : ((b.length : Int) - (p : Int)) = ((b.length - p : Nat) : Int) := by omega
      by_cases hnl : n > b.length - p
      · have HE := Lib.hid (show riseAt b a most = none by unfold riseAt; rw [h0]; simp [hnl])
        have e2 : decide (((b.length - p : Nat) : Int) < (n : Int)) = true := decide_eq_true (by omega)
        have e2b : decide (b.length - p < n) = true := decide_eq_true hnl
        clear h0 hC hc hb
        go_enter Try.func48, Try.ntmps48
        go_wp2_with (go_at_call 61; (with_reducible refine HG.out.mono ?_); rintro e w1 ⟨rfl, hb1⟩; have HB1 := Lib.hid hb1; clear hb1 HG)
        go_ret3
        exact RisePost.no HE.out HB1.out
      · have HE := Lib.hid (show riseAt b a most = riseGo b n p [] by unfold riseAt; rw [h0]; simp [hnl, hnm])
        have e2 : decide (((b.length - p : Nat) : Int) < (n : Int)) = false := decide_eq_false (by omega)
        have e2b : decide (b.length - p < n) = false := decide_eq_false hnl
        have hmk := make64 n (by omega)
        clear h0 hC hc hb
        go_enter Try.func48, Try.ntmps48
        go_wp2_with (go_at_call 61; (with_reducible refine HG.out.mono ?_); rintro e w1 ⟨rfl, hb1⟩; have HB1 := Lib.hid hb1; clear hb1 HG)
        rotate_left
        case _ =>
          go_loopw [1, 11, 50] (fun v1 v11 v50 wr => ∃ (i p' : Nat) (acc : List Int), v50 = .int .i64 (i : Int) ∧ v1 = .int .i64 (p' : Int) ∧ i ≤ n ∧ acc.length = i ∧ Kd.R (Kd.int .u64) 49 wr w.heap.size (fun _ => True) v11 acc ∧ riseGo b n p [] = riseGo b (n - i) p' acc ∧ (∀ x ∈ acc, 0 ≤ x ∧ x < 18446744073709551616) ∧ Below w.heap.size w wr) (fun _ _ v50 _ => n - (intOf v50).toNat)
          case atStart => exact ⟨0, p, [], rfl, rfl, Nat.zero_le _, rfl, made64 n (by omega) HB1.out.size, rfl, (fun x hx => by cases hx), below_alloc HB1.out _⟩
          case round =>
            obtain ⟨i, p', acc, rfl, rfl, hi, hai, hR, heq, hac, hbw⟩ := hrel
            obtain ⟨A1, c1, rfl, hcc, hC1⟩ := Kd.R_reads hR
            have HR := Lib.hid hR; have HBW := Lib.hid hbw; have HEQ := Lib.hid heq; have HAC := Lib.hid hac; have HC1 := Lib.hid hC1
            clear hR hbw heq hac hC1
            by_cases hin : i < n
            · have e5 : decide ((i : Int) < (n : Int)) = true := decide_eq_true (by omega)
              have e5b : decide (i < n) = true := decide_eq_true hin
              obtain ⟨m, hm2⟩ : ∃ m, n - i = m + 1 := ⟨n - i - 1, by omega⟩
              have hgo := HEQ.out
              rw [hm2, riseGo] at hgo
              have hCr := Kd.C_below HC.out HBW.out
              have HI := Lib.hid (show acc.length = i ∧ i < n ∧ n ≤ 1000000 by omega)
              cases hq : numAt b (p' : Int) with
              | none =>
                have HQ := Lib.hid (vget_any HB.out (p' : Int) hCr HCL.out (v := 0) (n := 0) (ok := false) (by simp [hq, getR]))
                have HN := Lib.hid (show riseAt b a most = none by rw [HE.out, hgo, hq])
                clear hgo hCr hq
                go_wp2_with (go_at_call 61; (with_reducible refine HQ.out.mono ?_); rintro e w3 ⟨rfl, hb3⟩; have HB3 := Lib.hid hb3; clear hb3 HQ)
                go_ret3
                exact RisePost.no HN.out (below_then HBW.out HBW.out.size HB3.out)
              | some y =>
                obtain ⟨v, q⟩ := y
                have hv := numAt_at HB.out hq
                have HQ := Lib.hid (vget_any HB.out (p' : Int) hCr HCL.out (v := v) (n := q) (ok := true) (by simp [hq, getR]))
                rw [hq] at hgo
                simp only at hgo
                by_cases hi0 : i = 0
                · subst hi0
                  obtain rfl : acc = [] := List.eq_nil_of_length_eq_zero hai
                  have e6 : decide ((0 : Int) < ((0 : Nat) : Int)) = false := rfl
                  have HN := Lib.hid (show riseGo b n p [] = riseGo b (n - (0 + 1)) q ([] ++ [(v : Int)]) by rw [hgo]; simp only [List.length_nil, if_true, List.nil_append]; rw [show n - (0 + 1) = m by omega])
                  clear hgo hCr hq
                  go_wp2_with (first | (go_at_call 61; (with_reducible refine HQ.out.mono ?_); rintro e w3 ⟨rfl, hb3⟩; have HB3 := Lib.hid hb3; clear hb3 HQ) | ((with_reducible refine gate_builtin (b := .append) (xs := #[.tmp 82, .tmp 84]) rfl ?_); at_builtin; refine Kd.R_append (Kd.int .u64) (w0 := w) w.heap.size rfl (.tmp 82) (.tmp 84) 39 49 (.int .u64 0) 8 rfl Try.underlying39 info64 rfl (by decide) (by omega) (.slice A1 0 c1) [] ((v : Int)) [.int .u64 ((v : Int))] (fun _ => True) (fun _ => False) rfl rfl rfl (fun _ hk => hk.elim) (fun _ _ => trivial) (Kd.R_below HR.out HB3.out) (below_then HBW.out HBW.out.size HB3.out) (below_then HBW.out HBW.out.size HB3.out).size (by have := HI.out; omega) ?_; intro v5 w5 ho5 hb5 hg5 hat5; have HO5 := Lib.hid ho5; have HB5 := Lib.hid hb5; clear ho5 hb5 hg5 hat5))
                  go_roundw
                  case rel => exact ⟨1, q, [] ++ [(v : Int)], by go_num, rfl, by have := HI.out; omega, rfl, HO5.out, HN.out, (fun x hx => by simp at hx; subst hx; omega), HB5.out⟩
                  case measure => have := HI.out; simp [intOf]; omega
                · have e6 : decide ((0 : Int) < (i : Int)) = true := decide_eq_true (by omega)
                  have e6b : decide (0 < i) = true := decide_eq_true (by omega)
                  obtain ⟨ad, hax, q0⟩ := Kd.at_int HC1.out (((i - 1 : Nat) : Int)) (by omega) (by omega)
                  rw [Int.toNat_natCast] at q0
                  have ei : (i : Int) - 1 = ((i - 1 : Nat) : Int) := by omega
                  have hin2 : i - 1 < acc.length := by omega
                  have hrd : rd acc ((i - 1 : Nat) : Int) = acc[i - 1] := by simp [rd, List.getD, List.getElem?_eq_getElem hin2]
                  have hu := HAC.out acc[i - 1] (List.getElem_mem _)
                  rw [← hrd] at hu
                  rw [hai, if_neg hi0] at hgo
                  clear hai
                  obtain ⟨L, hL⟩ : ∃ L, rd acc ((i - 1 : Nat) : Int) = L := ⟨_, rfl⟩
                  rw [hL] at hu hgo q0
                  have wL : IntKind.u64.wrap (18446744073709551615 - L) = 18446744073709551615 - L := by rw [IntKind.wrap_u64]; omega
                  by_cases hLm : L = 18446744073709551615
                  · have HN := Lib.hid (show riseAt b a most = none by rw [HE.out, hgo, if_pos (.inl hLm)])
                    subst hLm
                    clear hgo hCr hq hrd hL hu
                    subst hax
                    go_wp2_with (go_at_call 61; (with_reducible refine HQ.out.mono ?_); rintro e w3 ⟨rfl, hb3⟩; have HB3 := Lib.hid hb3; have p0 := pw_cell_below hb3 q0; clear hb3 HQ q0)
                    go_ret3
                    exact RisePost.no HN.out (below_then HBW.out HBW.out.size HB3.out)
                  · have wL2 : IntKind.u64.wrap (18446744073709551615 - L - 1) = 18446744073709551615 - L - 1 := by rw [IntKind.wrap_u64]; omega
                    have e7 : decide (L = 18446744073709551615) = false := decide_eq_false hLm
                    by_cases hov : (v : Int) > 18446744073709551615 - L - 1
                    · have HN := Lib.hid (show riseAt b a most = none by rw [HE.out, hgo, if_pos (.inr hov)])
                      have e8 : decide (18446744073709551615 - L - 1 < (v : Int)) = true := decide_eq_true hov
                      clear hgo hCr hq hrd hL
                      subst hax
                      go_wp2_with (go_at_call 61; (with_reducible refine HQ.out.mono ?_); rintro e w3 ⟨rfl, hb3⟩; have HB3 := Lib.hid hb3; have p0 := pw_cell_below hb3 q0; clear hb3 HQ q0)
                      go_ret3
                      exact RisePost.no HN.out (below_then HBW.out HBW.out.size HB3.out)
                    · have e8 : decide (18446744073709551615 - L - 1 < (v : Int)) = false := decide_eq_false hov
                      have wS : IntKind.u64.wrap (L + 1) = L + 1 := by rw [IntKind.wrap_u64]; omega
                      have wT : IntKind.u64.wrap ((v : Int) + (L + 1)) = (v : Int) + (L + 1) := by rw [IntKind.wrap_u64]; omega
                      have HN := Lib.hid (show riseGo b n p [] = riseGo b (n - (i + 1)) q (acc ++ [(v : Int) + (L + 1)]) by rw [hgo, if_neg (fun c => c.elim hLm hov)]; rw [show n - (i + 1) = m by omega])
                      have HU := Lib.hid (show 0 ≤ (v : Int) + (L + 1) ∧ (v : Int) + (L + 1) < 18446744073709551616 by omega)
                      clear hgo hCr hq hrd hL
                      subst hax
                      go_wp2_with (first | (go_at_call 61; (with_reducible refine HQ.out.mono ?_); rintro e w3 ⟨rfl, hb3⟩; have HB3 := Lib.hid hb3; have p0 := pw_cell_below hb3 q0; clear hb3 HQ q0) | ((with_reducible refine gate_builtin (b := .append) (xs := #[.tmp 82, .tmp 84]) rfl ?_); at_builtin; refine Kd.R_append (Kd.int .u64) (w0 := w) w.heap.size rfl (.tmp 82) (.tmp 84) 39 49 (.int .u64 0) 8 rfl Try.underlying39 info64 rfl (by decide) (by omega) (.slice (some ad) acc.length c1) acc ((v : Int) + (L + 1)) [.int .u64 ((v : Int) + (L + 1))] (fun _ => True) (fun _ => False) rfl rfl rfl (fun _ hk => hk.elim) (fun _ _ => trivial) (Kd.R_below HR.out HB3.out) (below_then HBW.out HBW.out.size HB3.out) (below_then HBW.out HBW.out.size HB3.out).size (by have := HI.out; omega) ?_; intro v5 w5 ho5 hb5 hg5 hat5; have HO5 := Lib.hid ho5; have HB5 := Lib.hid hb5; clear ho5 hb5 hg5 hat5))
                      go_roundw
                      case rel => exact ⟨i + 1, q, acc ++ [(v : Int) + (L + 1)], by go_num, rfl, by have := HI.out; omega, by have := HI.out; simp; omega, HO5.out, HN.out, (fun x hx => by rcases List.mem_append.1 hx with c | c; exact HAC.out x c; simp at c; subst c; exact HU.out), HB5.out⟩
                      case measure => have := HI.out; simp [intOf]; omega
            · have e5 : decide ((i : Int) < (n : Int)) = false := decide_eq_false (by omega)
              have e5b : decide (i < n) = false := decide_eq_false hin
              obtain rfl : i = n := by omega
              have HN := Lib.hid (show riseAt b a most = some (acc, p') by rw [HE.out, HEQ.out, Nat.sub_self]; rfl)
              go_wp2
              go_ret3
              exact ⟨HBW.out, (fun l r e => by rw [HN.out] at e; cases e; exact ⟨_, rfl, HR.out⟩), fun e => by rw [HN.out] at e; cases e⟩
end Go.Proofs.Ytofgcacahfdjdaa
namespace Go.Proofs.Ytofgcacahfdjdaa.Pure
set_option linter.unusedVariables false
set_option linter.unusedSimpArgs false
open Go.RowKit Go.Proofs.YtofgcacahfdjdaaW.PrintWords Go.Proofs.YtofgcacahfdjdaaW.PrintLast Go.Proofs.YtofgcacahfdjdaaW.PrintMore Go.Proofs.Ytofgcacahfdjdaa.Hi Go.Proofs.Ytofgcacahfdjdaa.Vt
theorem encL_app (a b : List Nat) : encL (a ++ b) = encL a ++ encL b := by simp [encL]
theorem encL_least (l : List Nat) : l.length ≤ (encL l).length := by
  induction l with
  | nil => simp
  | cons n l ih =>
    have := encN_pos n
    have e : encL (n :: l) = encN n ++ encL l := by simp [encL]
    rw [e, List.length_cons, List.length_append]; omega
theorem diffs_split (l : List Int) (i m : Nat) : ∃ r, diffs l (i + m) = diffs l i ++ r := by
  unfold diffs
  rw [List.range_add, List.map_append]
  exact ⟨_, rfl⟩
theorem wrapU_in {x : Int} (h0 : 0 ≤ x) (h1 : x < 18446744073709551616) : IntKind.u64.wrap x = x := by
  have h : IntKind.u64.wrap x = x % 18446744073709551616 := by first | rfl | simp [IntKind.wrap]
  rw [h]; omega
theorem rd_get (l : List Int) {i : Nat} (h : i < l.length) : rd l (i : Int) = l[i] := by simp [rd, List.getD, List.getElem?_eq_getElem h]
/-- A list of u64 that rises. -/
def RiseL (l : List Int) : Prop := (∀ x ∈ l, 0 ≤ x ∧ x < 18446744073709551616) ∧ ∀ i, i + 1 < l.length → rd l (i : Int) < rd l ((i + 1 : Nat) : Int)
theorem riseGo_enc (ls pre ys : List Int) (h : RiseL ls) : ∀ m i, i + m = ls.length →
    riseGo (pre ++ encL (diffs ls ls.length) ++ ys) m (pre.length + (encL (diffs ls i)).length) (ls.take i) = some (ls, pre.length + (encL (diffs ls ls.length)).length) := by
  intro m
  induction m with
  | zero =>
    intro i hi
    obtain rfl : i = ls.length := by omega
    rw [riseGo, List.take_length]
  | succ m ih =>
    intro i hi
    have hil : i < ls.length := by omega
    have hq := ih (i + 1) (by omega)
    obtain ⟨rest, hrest⟩ := diffs_split ls (i + 1) m
    rw [show i + 1 + m = ls.length by omega] at hrest
    have hb1 := h.1 ls[i] (List.getElem_mem _)
    rw [← rd_get ls hil] at hb1
    have hds := diffs_succ ls i
    have htk : ls.take (i + 1) = ls.take i ++ [rd ls (i : Int)] := by rw [rd_get ls hil, List.take_append_getElem]
    have hw := wrapU (rd ls (i : Int) - prevN ls i)
    have hna := numAt_enc (IntKind.u64.wrap (rd ls (i : Int) - prevN ls i)).toNat (by omega) (pre ++ encL (diffs ls i)) (encL rest ++ ys)
    have hbb : pre ++ encL (diffs ls i) ++ encN (IntKind.u64.wrap (rd ls (i : Int) - prevN ls i)).toNat ++ (encL rest ++ ys) = pre ++ encL (diffs ls ls.length) ++ ys := by
      rw [hrest, hds, encL_app, encL_snoc]; simp [List.append_assoc]
    rw [hbb, List.length_append] at hna
    rw [hds, encL_snoc, List.length_append, ← Nat.add_assoc] at hq
    rw [riseGo, hna]
    simp only
    cases i with
    | zero =>
      have e0 : IntKind.u64.wrap (rd ls ((0 : Nat) : Int) - prevN ls 0) = rd ls ((0 : Nat) : Int) := by
        rw [show prevN ls 0 = 0 from rfl, Int.sub_zero]; exact wrapU_in hb1.1 hb1.2
      rw [htk] at hq
      rw [e0] at hq ⊢
      rw [if_pos (by simp)]
      rw [List.take_zero, List.nil_append] at hq
      rw [show ((rd ls ((0 : Nat) : Int)).toNat : Int) = rd ls ((0 : Nat) : Int) by omega]
      exact hq
    | succ j =>
      have hlt := h.2 j hil
      have hb0 := h.1 ls[j] (List.getElem_mem (by omega))
      rw [← rd_get ls (by omega : j < ls.length)] at hb0
      have e0 : IntKind.u64.wrap (rd ls ((j + 1 : Nat) : Int) - prevN ls (j + 1)) = rd ls ((j + 1 : Nat) : Int) - rd ls (j : Int) - 1 := by
        rw [show prevN ls (j + 1) = IntKind.u64.wrap (rd ls (j : Int) + 1) from rfl, wrapU_in (x := rd ls (j : Int) + 1) (by omega) (by omega), wrapU_in (by omega) (by omega)]; omega
      have hlen : (ls.take (j + 1)).length = j + 1 := by rw [List.length_take]; omega
      have hlast : rd (ls.take (j + 1)) ((j : Nat) : Int) = rd ls (j : Int) := by
        simp [rd, List.getD, List.getElem?_take]
      rw [e0] at hq ⊢
      rw [hlen, if_neg (by omega), Nat.add_sub_cancel, hlast, if_neg (by omega)]
      rw [show (((rd ls ((j + 1 : Nat) : Int) - rd ls (j : Int) - 1).toNat : Nat) : Int) + (rd ls (j : Int) + 1) = rd ls ((j + 1 : Nat) : Int) by omega, ← htk]
      exact hq
/-- A rising list that was put is read again. -/
theorem riseAt_enc (ls pre ys : List Int) (h : RiseL ls) (most : Nat) (hm : ls.length ≤ most) (hl : ls.length < 18446744073709551616) :
    riseAt (pre ++ (encN ls.length ++ encL (diffs ls ls.length)) ++ ys) (pre.length : Int) most = some (ls, pre.length + (encN ls.length ++ encL (diffs ls ls.length)).length) := by
  have h1 := numAt_enc ls.length hl pre (encL (diffs ls ls.length) ++ ys)
  have h2 := riseGo_enc ls (pre ++ encN ls.length) ys h ls.length 0 (by omega)
  have e : pre ++ encN ls.length ++ (encL (diffs ls ls.length) ++ ys) = pre ++ (encN ls.length ++ encL (diffs ls ls.length)) ++ ys := by simp [List.append_assoc]
  have e2 : pre ++ encN ls.length ++ encL (diffs ls ls.length) ++ ys = pre ++ (encN ls.length ++ encL (diffs ls ls.length)) ++ ys := by simp [List.append_assoc]
  have hle := encL_least (diffs ls ls.length)
  rw [diffs_len] at hle
  rw [e] at h1
  rw [e2] at h2
  unfold riseAt
  rw [h1]
  simp only
  rw [if_neg (by simp only [List.length_append]; omega)]
  have e3 : (encL (diffs ls 0)).length = 0 := rfl
  rw [e3, List.take_zero, List.length_append, Nat.add_zero] at h2
  rw [h2, List.length_append, Nat.add_assoc]
end Go.Proofs.Ytofgcacahfdjdaa.Pure
namespace Go.Proofs.Ytofgcacahfdjdaa.Pure
set_option linter.unusedVariables false
set_option linter.unusedSimpArgs false
open Go.RowKit Go.Proofs.YtofgcacahfdjdaaW.PrintWords Go.Proofs.YtofgcacahfdjdaaW.PrintLast Go.Proofs.YtofgcacahfdjdaaW.PrintMore Go.Proofs.Ytofgcacahfdjdaa.Hi Go.Proofs.Ytofgcacahfdjdaa.Vt
theorem rrise_bad (k : Nat) (hk : 2 ≤ k) (n : Int) (acc : List Int) (i : Int) (b : List Int) (q : Int) : varveref04_R_Rise.l0 k n acc i b q true = some ([], q, true) := by
  obtain ⟨k, rfl⟩ : ∃ m, k = m + 2 := ⟨k - 2, by omega⟩
  rw [varveref04_R_Rise.l0]
  split
  · rw [Bool.not_true, varveref04_R_Rise.j1, if_neg (by decide), if_pos rfl]
  · rw [varveref04_R_Rise.j1, if_neg (by decide), if_pos rfl]
theorem rrise_go {b : List Int} (hb : WBy b) (n : Nat) (hn : n ≤ 1000000) : ∀ (c p : Nat) (acc : List Int) (k : Nat), acc.length + c = n → (∀ x ∈ acc, 0 ≤ x ∧ x < 18446744073709551616) → 2 * c + 44 ≤ k →
    (∀ l q, riseGo b c p acc = some (l, q) → varveref04_R_Rise.l0 k (n : Int) acc (acc.length : Int) b (p : Int) false = some (l, (q : Int), false)) ∧
    (riseGo b c p acc = none → ∃ q : Int, varveref04_R_Rise.l0 k (n : Int) acc (acc.length : Int) b (p : Int) false = some ([], q, true)) := by
  intro c
  induction c with
  | zero =>
    intro p acc k h _ hk
    obtain ⟨k, rfl⟩ : ∃ m, k = m + 2 := ⟨k - 2, by omega⟩
    rw [varveref04_R_Rise.l0, if_neg (by omega), varveref04_R_Rise.j1, if_neg (by decide), if_neg (by decide), riseGo]
    exact ⟨fun l q e => by injection e with e; injection e with e1 e2; rw [e1, e2], fun e => by cases e⟩
  | succ c ih =>
    intro p acc k h hac hk
    obtain ⟨k, rfl⟩ : ∃ m, k = m + 2 := ⟨k - 2, by omega⟩
    rw [varveref04_R_Rise.l0, if_pos (by omega), Bool.not_false, varveref04_R_Rise.j1, if_pos rfl]
    obtain ⟨g1, g2⟩ := rnum_eq hb (p : Int) k (by omega)
    have hw0 : acc.length ≠ 0 → wrap64 ((acc.length : Int) - 1) = ((acc.length - 1 : Nat) : Int) := fun hh => by unfold wrap64; omega
    have hw1 : wrap64 ((acc.length : Int) + 1) = ((acc.length + 1 : Nat) : Int) := by unfold wrap64; omega
    have hLb : acc.length ≠ 0 → 0 ≤ rd acc ((acc.length - 1 : Nat) : Int) ∧ rd acc ((acc.length - 1 : Nat) : Int) < 18446744073709551616 := fun hh => by
      rw [rd_get acc (by omega : acc.length - 1 < acc.length)]; exact hac _ (List.getElem_mem _)
    rw [riseGo]
    cases hq : numAt b (p : Int) with
    | none =>
      obtain ⟨q, e⟩ := g2 hq
      rw [e, Option.bind_some]
      refine ⟨fun l q h => by simp at h, fun _ => ?_⟩
      simp only
      by_cases c0 : acc.length = 0
      · rw [if_pos (by omega), if_pos (by omega)]
        exact ⟨q, rrise_bad k (by omega) _ _ _ _ _⟩
      · rw [if_neg (by omega), hw0 c0, if_pos (by omega), if_pos (by omega)]
        split
        · exact ⟨q, rfl⟩
        · rw [if_pos (by omega)]
          exact ⟨q, rrise_bad k (by omega) _ _ _ _ _⟩
    | some x =>
      obtain ⟨v, q⟩ := x
      have hv := numAt_at hb hq
      rw [g1 v q hq, Option.bind_some]
      simp only
      by_cases c0 : acc.length = 0
      · obtain rfl : acc = [] := List.eq_nil_of_length_eq_zero c0
        have hi := ih q ([] ++ [(v : Int)]) k (by simp at h ⊢; omega) (fun x hx => by simp at hx; subst hx; omega) (by omega)
        rw [if_pos (by omega), if_pos (by simp), if_pos (by simp), hw1]
        exact hi
      · have hb0 := hLb c0
        rw [if_neg c0, if_neg (show ¬ ((acc.length : Int) = 0) by omega), hw0 c0, if_pos (show (0 : Int) ≤ ((acc.length - 1 : Nat) : Int) by omega), if_pos (show ((acc.length - 1 : Nat) : Int) < (acc.length : Int) by omega), wrapU_in (x := 18446744073709551615 - _) (by omega) (by omega)]
        by_cases cv : (v : Int) ≥ 18446744073709551615 - rd acc ((acc.length - 1 : Nat) : Int)
        · rw [if_pos cv, if_pos (show rd acc ((acc.length - 1 : Nat) : Int) = 18446744073709551615 ∨ (v : Int) > 18446744073709551615 - rd acc ((acc.length - 1 : Nat) : Int) - 1 by omega)]
          exact ⟨fun l q h => by simp at h, fun _ => ⟨_, rfl⟩⟩
        · rw [if_neg cv, if_neg (show ¬ (rd acc ((acc.length - 1 : Nat) : Int) = 18446744073709551615 ∨ (v : Int) > 18446744073709551615 - rd acc ((acc.length - 1 : Nat) : Int) - 1) by omega), if_pos (show acc.length < 17592186044416 by omega), wrapU_in (x := _ + (v : Int)) (by omega) (by omega), wrapU_in (x := _ + 1) (by omega) (by omega), hw1, show rd acc ((acc.length - 1 : Nat) : Int) + (v : Int) + 1 = (v : Int) + (rd acc ((acc.length - 1 : Nat) : Int) + 1) by omega]
          have hi := ih q (acc ++ [(v : Int) + (rd acc ((acc.length - 1 : Nat) : Int) + 1)]) k (by simp; omega) (fun x hx => by rcases List.mem_append.1 hx with d | d; exact hac x d; simp at d; subst d; omega) (by omega)
          rw [List.length_append, List.length_singleton] at hi
          exact hi
/-- The reference's R.Rise reads as the program's GetRise. -/
theorem rrise_eq {b : List Int} (hb : WBy b) (a : Int) (most : Nat) (hm : most ≤ 1000000) : ∃ k,
    (∀ l q, riseAt b a most = some (l, q) → varveref04_R_Rise.f k b a false (most : Int) = some (l, (q : Int), false)) ∧
    (riseAt b a most = none → ∃ q : Int, varveref04_R_Rise.f k b a false (most : Int) = some ([], q, true)) := by
  refine ⟨3000000, ?_⟩
  obtain ⟨g1, g2⟩ := rnum_eq hb a 3000000 (by decide)
  unfold varveref04_R_Rise.f varveref04_R_Count.f riseAt
  have hwm : IntKind.u64.wrap (most : Int) = (most : Int) := wrapU_in (by omega) (by omega)
  have hbl := hb.1
  cases hq : numAt b a with
  | none =>
    obtain ⟨q, e⟩ := g2 hq
    rw [e, Option.bind_some, if_pos rfl, Option.bind_some]
    exact ⟨fun l q h => by simp at h, fun _ => ⟨q, rrise_bad _ (by decide) _ _ _ _ _⟩⟩
  | some x =>
    obtain ⟨n, p⟩ := x
    have hv := numAt_at hb hq
    have hwl : IntKind.u64.wrap (wrap64 ((b.length : Int) - (p : Int))) = ((b.length - p : Nat) : Int) := by
      rw [show wrap64 ((b.length : Int) - (p : Int)) = ((b.length - p : Nat) : Int) by unfold wrap64; omega]; exact wrapU_in (by omega) (by omega)
    rw [g1 n p hq, Option.bind_some]
    simp only
    rw [if_neg (show ¬ (false = true) by decide), if_neg (show ¬ ((most : Int) < 0) by omega), hwm, hwl]
    by_cases c1 : n > most
    · rw [if_pos (show (n : Int) > (most : Int) by omega), if_pos (show n > most ∨ n > b.length - p from .inl c1), Option.bind_some]
      exact ⟨fun l q h => by simp at h, fun _ => ⟨_, rrise_bad _ (by decide) _ _ _ _ _⟩⟩
    · rw [if_neg (show ¬ ((n : Int) > (most : Int)) by omega)]
      by_cases c2 : n > b.length - p
      · rw [if_pos (show (n : Int) > ((b.length - p : Nat) : Int) by omega), if_pos (show n > most ∨ n > b.length - p from .inr c2), Option.bind_some]
        exact ⟨fun l q h => by simp at h, fun _ => ⟨_, rrise_bad _ (by decide) _ _ _ _ _⟩⟩
      · rw [if_neg (show ¬ ((n : Int) > ((b.length - p : Nat) : Int)) by omega), if_neg (show ¬ (n > most ∨ n > b.length - p) by omega), Option.bind_some]
        have hw : wrap64 (n : Int) = (n : Int) := by unfold wrap64; omega
        simp only
        rw [hw]
        exact rrise_go hb n (by omega) n p [] 3000000 (by simp) (fun x hx => by cases hx) (by omega)
end Go.Proofs.Ytofgcacahfdjdaa.Pure
namespace Go.Proofs.Ytofgcacahfdjdaa.Pure
set_option linter.unusedVariables false
set_option linter.unusedSimpArgs false
open Go.RowKit Go.Proofs.YtofgcacahfdjdaaW.PrintWords Go.Proofs.YtofgcacahfdjdaaW.PrintLast Go.Proofs.YtofgcacahfdjdaaW.PrintMore Go.Proofs.Ytofgcacahfdjdaa.Hi Go.Proofs.Ytofgcacahfdjdaa.Vt
theorem rise_go (ls : List Int) (h : RiseL ls) (hn : ls.length ≤ 1000000) : ∀ (m i : Nat), i + m = ls.length →
    varveref04_Rise.l0 (m + 1) ls (encN ls.length ++ encL (diffs ls i)) (i : Int) = some (encN ls.length ++ encL (diffs ls ls.length)) := by
  intro m
  induction m with
  | zero =>
    intro i hi
    obtain rfl : i = ls.length := by omega
    rw [varveref04_Rise.l0, if_neg (by omega)]
  | succ m ih =>
    intro i hi
    have hil : i < ls.length := by omega
    have hw1 : wrap64 ((i : Int) + 1) = ((i + 1 : Nat) : Int) := by unfold wrap64; omega
    have hb1 := h.1 ls[i] (List.getElem_mem _)
    rw [← rd_get ls hil] at hb1
    have hds := diffs_succ ls i
    have hq := ih (i + 1) (by omega)
    rw [hds, encL_snoc, ← List.append_assoc] at hq
    have hl1 := encN_len ls.length (by omega)
    have hl2 := encL_len (diffs ls i) (diffs_small ls i)
    rw [diffs_len] at hl2
    have hl3 := encN_len (IntKind.u64.wrap (rd ls (i : Int) - prevN ls i)).toNat (by have := wrapU (rd ls (i : Int) - prevN ls i); omega)
    rw [varveref04_Rise.l0, if_pos (show (i : Int) < (ls.length : Int) by omega)]
    cases i with
    | zero =>
      have e0 : IntKind.u64.wrap (rd ls ((0 : Nat) : Int) - prevN ls 0) = rd ls ((0 : Nat) : Int) := by
        rw [show prevN ls 0 = 0 from rfl, Int.sub_zero]; exact wrapU_in hb1.1 hb1.2
      rw [e0] at hq hl3
      rw [if_pos (show ((0 : Nat) : Int) = 0 from rfl), if_pos (show (0 : Int) < (ls.length : Int) by omega), varveref04_Put.f, if_pos (show 0 ≤ rd ls 0 ∧ rd ls 0 < 18446744073709551616 from hb1), Option.bind_some, if_pos (show (encN ls.length ++ encL (diffs ls 0)).length + (encN (rd ls 0).toNat).length < 140737488355328 by have hl4 : (encN (rd ls 0).toNat).length ≤ 10 := hl3; rw [List.length_append]; omega), hw1]
      exact hq
    | succ j =>
      have hlt := h.2 j hil
      have hb0 := h.1 ls[j] (List.getElem_mem (by omega))
      rw [← rd_get ls (by omega : j < ls.length)] at hb0
      have e0 : IntKind.u64.wrap (rd ls ((j + 1 : Nat) : Int) - prevN ls (j + 1)) = rd ls ((j + 1 : Nat) : Int) - rd ls (j : Int) - 1 := by
        rw [show prevN ls (j + 1) = IntKind.u64.wrap (rd ls (j : Int) + 1) from rfl, wrapU_in (x := rd ls (j : Int) + 1) (by omega) (by omega), wrapU_in (by omega) (by omega)]; omega
      have hwj : wrap64 (((j + 1 : Nat) : Int) - 1) = (j : Int) := by unfold wrap64; omega
      rw [e0] at hq hl3
      rw [if_neg (show ¬ (((j + 1 : Nat) : Int) = 0) by omega), if_pos (show (0 : Int) ≤ ((j + 1 : Nat) : Int) by omega), hwj, if_pos (show (0 : Int) ≤ (j : Int) by omega), if_pos (show (j : Int) < (ls.length : Int) by omega), wrapU_in (x := rd ls ((j + 1 : Nat) : Int) - rd ls (j : Int)) (by omega) (by omega), wrapU_in (by omega) (by omega), varveref04_Put.f, if_pos (show 0 ≤ rd ls ((j + 1 : Nat) : Int) - rd ls (j : Int) - 1 ∧ rd ls ((j + 1 : Nat) : Int) - rd ls (j : Int) - 1 < 18446744073709551616 by omega), Option.bind_some, if_pos (by rw [List.length_append]; omega), hw1]
      exact hq
theorem rise_eq (ls : List Int) (h : RiseL ls) (hn : ls.length ≤ 1000000) : varveref04_Rise.f (ls.length + 1) ls = some (encN ls.length ++ encL (diffs ls ls.length)) := by
  have g := rise_go ls h hn ls.length 0 (by omega)
  unfold varveref04_Rise.f
  have hw : IntKind.u64.wrap (ls.length : Int) = (ls.length : Int) := wrapU_in (by omega) (by omega)
  rw [hw, varveref04_Put.f, if_pos (by omega), Option.bind_some, Int.toNat_natCast]
  rw [show diffs ls 0 = [] from rfl, show encL [] = [] from rfl, List.append_nil] at g
  exact g
end Go.Proofs.Ytofgcacahfdjdaa.Pure
namespace Go.Proofs.Ytofgcacahfdjdaa.Pure
set_option linter.unusedVariables false
set_option linter.unusedSimpArgs false
/-- A list that rises. -/
abbrev Asc (l : List Int) : Prop := l.Pairwise (· < ·)
theorem asc_ext : ∀ {l m : List Int}, Asc l → Asc m → (∀ x, x ∈ l ↔ x ∈ m) → l = m := by
  intro l
  induction l with
  | nil =>
    intro m _ _ h
    cases m with
    | nil => rfl
    | cons y r => exact absurd ((h y).mpr (by simp)) (by simp)
  | cons x r ih =>
    intro m hl hm h
    cases m with
    | nil => exact absurd ((h x).mp (by simp)) (by simp)
    | cons y s =>
      obtain ⟨l1, l2⟩ := List.pairwise_cons.mp hl
      obtain ⟨m1, m2⟩ := List.pairwise_cons.mp hm
      have hxy : x = y := by
        rcases List.mem_cons.mp ((h x).mp (by simp)) with e | e
        · exact e
        · rcases List.mem_cons.mp ((h y).mpr (by simp)) with e2 | e2
          · exact e2.symm
          · have := m1 x e; have := l1 y e2; omega
      subst hxy
      congr 1
      refine ih l2 m2 fun z => ⟨fun hz => ?_, fun hz => ?_⟩
      · rcases List.mem_cons.mp ((h z).mp (by simp [hz])) with e | e
        · have := l1 z hz; omega
        · exact e
      · rcases List.mem_cons.mp ((h z).mpr (by simp [hz])) with e | e
        · have := m1 z hz; omega
        · exact e
/-- One more. -/
def kins (h : Int) : List Int → List Int
  | [] => [h]
  | x :: r => if h < x then h :: x :: r else if h = x then x :: r else x :: kins h r
theorem mem_kins (h : Int) (l : List Int) (x : Int) : x ∈ kins h l ↔ x = h ∨ x ∈ l := by
  induction l with
  | nil => simp [kins]
  | cons y r ih =>
    unfold kins
    split
    · simp
    · split
      · rename_i e; subst e; simp
      · simp only [List.mem_cons, ih]
        constructor
        · rintro (e | e | e)
          · exact .inr (.inl e)
          · exact .inl e
          · exact .inr (.inr e)
        · rintro (e | e | e)
          · exact .inr (.inl e)
          · exact .inl e
          · exact .inr (.inr e)
theorem asc_kins (h : Int) : ∀ {l : List Int}, Asc l → Asc (kins h l) := by
  intro l
  induction l with
  | nil => intro _; simp [kins]
  | cons y r ih =>
    intro hl
    obtain ⟨l1, l2⟩ := List.pairwise_cons.mp hl
    unfold kins
    split
    · refine List.pairwise_cons.mpr ⟨fun z hz => ?_, hl⟩
      rcases List.mem_cons.mp hz with e | e
      · omega
      · have := l1 z e; omega
    · split
      · exact hl
      · refine List.pairwise_cons.mpr ⟨fun z hz => ?_, ih l2⟩
        rcases (mem_kins h r z).mp hz with e | e
        · omega
        · exact l1 z e
theorem kins_mem {h : Int} {l : List Int} (ha : Asc l) (hm : h ∈ l) : kins h l = l :=
  asc_ext (asc_kins h ha) ha fun x => by
    rw [mem_kins]
    exact ⟨fun e => e.elim (fun e => by rw [e]; exact hm) id, .inr⟩
theorem kins_len {h : Int} : ∀ {l : List Int}, Asc l → h ∉ l → (kins h l).length = l.length + 1 := by
  intro l
  induction l with
  | nil => intro _ _; rfl
  | cons y r ih =>
    intro hl hn
    obtain ⟨l1, l2⟩ := List.pairwise_cons.mp hl
    unfold kins
    split
    · simp
    · split
      · rename_i e; subst e; simp at hn
      · simp [ih l2 (fun h => hn (by simp [h]))]
/-- How many are less. -/
def below (l : List Int) (x : Int) : Nat := (l.filter (fun y => decide (y < x))).length
theorem asc_take {l : List Int} (h : Asc l) (n : Nat) : Asc (l.take n) := h.sublist (List.take_sublist n l)
theorem nodup_le : ∀ {l m : List Int}, l.Nodup → (∀ x ∈ l, x ∈ m) → l.length ≤ m.length := by
  intro l
  induction l with
  | nil => intro m _ _; exact Nat.zero_le _
  | cons x r ih =>
    intro m hn h
    obtain ⟨h1, h2⟩ := List.nodup_cons.mp hn
    have hx := h x (by simp)
    have := ih (m := m.erase x) h2 (fun z hz => (List.mem_erase_of_ne (by rintro rfl; exact h1 hz)).mpr (h z (by simp [hz])))
    rw [List.length_erase_of_mem hx] at this
    have := List.length_pos_of_mem hx
    rw [List.length_cons]; omega
def khash (s : List Int) (h : Int) : List Int := (kins h s).take 1024
theorem asc_khash {s : List Int} (hs : Asc s) (h : Int) : Asc (khash s h) := asc_take (asc_kins h hs) 1024
theorem khash_len (s : List Int) (h : Int) : (khash s h).length ≤ 1024 := by unfold khash; rw [List.length_take]; omega
end Go.Proofs.Ytofgcacahfdjdaa.Pure
namespace Go.Proofs.Ytofgcacahfdjdaa
set_option linter.unusedVariables false
set_option linter.unusedSimpArgs false
open Go.RowKit Go.Sort Go.Proofs
/-- A quiet call behind a quiet region: the draws are one sum. -/
theorem quiet_add_same {P : Program} {f : FuncId} {args : Array Value} {w : World} {a n : Nat} {v : Value} (h : Calls P f args (w.drewN (a + n)) fun e w' => e = .returned v ∧ w' = w.drewN (a + n)) :
    Calls P f args (w.drewN (a + n)) fun e w'' => e = .returned v ∧ ∃ m, w'' = w.drewN (a + m) := h.mono fun _ _ ⟨he, hm⟩ => ⟨he, n, hm⟩
theorem isNaN_u (x : Int) (w : World) : Calls Try.prog 122 #[.int .u64 x] w fun e w' => e = .returned (.bool false) ∧ w' = w := by
  go_enter Try.func122, Try.ntmps122
  go_wp2
  go_ret
  exact ⟨by simp, rfl⟩
theorem less_u (x y : Int) (w : World) : Calls Try.prog 108 #[.int .u64 x, .int .u64 y] w fun e w' => e = .returned (.bool (Sort.ltInt x y)) ∧ w' = w := by
  go_enter Try.func108, Try.ntmps108
  go_wp2_with (go_at_call 122; refine (isNaN_u _ _).mono ?_; rintro e w' ⟨rfl, rfl⟩)
  go_ret
  exact ⟨rfl, rfl⟩
/-- An exchange of two places, some draws on. -/
theorem swapU {wr w : World} {n blk off : Nat} {dk : Array Int} (hw : wr = putRow (Value.int .u64) (Sort.ahead w n) blk off dk) {q j k : Nat} {x y : Int} (hj : j < dk.size) (hk : k < dk.size) (hx : x = dk[k]!) (hy : y = dk[j]!) :
    ((wr.drewN q).setCell ⟨blk, off + j, none⟩ (.int .u64 x)).setCell ⟨blk, off + k, none⟩ (.int .u64 y) = putRow (Value.int .u64) (Sort.ahead w (n + q)) blk off (swp dk j k) := by
  rw [hw, hx, hy]
  exact swap_worldA _ w n q blk off dk j k hj hk
/-- A call on a row behind some draws. -/
theorem thenU {wr w : World} {n blk off q : Nat} {dk d' : Array Int} (hw : wr = putRow (Value.int .u64) (Sort.ahead w n) blk off dk) (hs : d'.size = dk.size) : putRow (Value.int .u64) (Sort.ahead wr q) blk off d' = putRow (Value.int .u64) (Sort.ahead w (n + q)) blk off d' := by
  rw [hw]; exact putRow_ahead_putRow _ _ _ _ _ _ _ _ hs
theorem holdsU {wr w : World} {n blk off : Nat} {d dk : Array Int} (hH : Holds (Value.int .u64) w blk off d) (hs : dk.size = d.size) (hw : wr = putRow (Value.int .u64) (Sort.ahead w n) blk off dk) : Holds (Value.int .u64) wr blk off dk := by
  rw [hw]; exact holds_putRow _ _ _ _ d dk (holds_ahead _ _ _ _ _ _ hH) hs
set_option maxHeartbeats 1000000 in
theorem insertionSort_u (blk off len cap a b : Nat) (d : Array Int) (hlen : d.size = len) (w : World) (hH : Holds (Value.int .u64) w blk off d) (hab : a ≤ b) (hb : b ≤ d.size) (hsz : d.size < 4611686018427387904) :
    Calls Try.prog 102 #[.slice (some ⟨blk, off, none⟩) len cap, .int .i64 a, .int .i64 b] w fun e w' =>
      e = .returned (.tuple #[]) ∧ ∃ n, w' = putRow (Value.int .u64) (Sort.ahead w n) blk off (Sort.insertionSort ltInt d a b) := by
  subst hlen
  go_enter Try.func102, Try.ntmps102
  go_wp2
  go_loopw [6] (fun vi wr => ∃ (i n : Nat) (dk : Array Int), vi = .int .i64 i ∧ a < i ∧ i ≤ b + 1 ∧ dk.size = d.size ∧ wr = putRow (Value.int .u64) (Sort.ahead w n) blk off dk ∧
      insOuter ltInt a b i dk = insOuter ltInt a b (a + 1) d) (fun vi _ => b + 1 - (intOf vi).toNat)
  case atStart => exact ⟨a + 1, 0, d, by go_num, by omega, by omega, rfl, (putRow_self _ _ _ _ _ hH).symm, rfl⟩
  case round =>
    obtain ⟨i, n, dk, rfl, hai, hib, hsk, hwr, hO⟩ := hrel
    have HO := Lib.hid hO
    clear hO
    go_wp2
    · go_loopw [7] (fun vj wr2 => ∃ (j m : Nat) (dj : Array Int), vj = .int .i64 j ∧ a ≤ j ∧ j ≤ i ∧ dj.size = d.size ∧ wr2 = putRow (Value.int .u64) (Sort.ahead w m) blk off dj ∧
          insInner ltInt a j dj = insInner ltInt a i dk) (fun vj _ => (intOf vj).toNat)
      case atStart => exact ⟨i, n, dk, rfl, by omega, Nat.le_refl _, hsk, rfl, rfl⟩
      case round =>
        obtain ⟨j, m, dj, rfl, haj, hji, hsj, hw2, hI⟩ := hrel
        have hlt : i < b := by assumption
        obtain ⟨G, hG⟩ : ∃ G : Nat → Int, ∀ t, G t = dj[t]! := ⟨fun t => dj[t]!, fun _ => rfl⟩
        have hcw : ∀ t, t < d.size → wr.cell? ⟨blk, off + t, none⟩ = some (.int .u64 (G t)) := fun t ht => by
          rw [hw2, hG]; exact cell?_putRow _ _ _ _ d dj (holds_ahead _ _ _ _ _ _ hH) hsj t (by omega)
        have hfw : ∀ t, t < d.size → wr.frozen? ⟨blk, off + t, none⟩ = false := fun t ht => by
          rw [hw2, frozen?_putRow]; exact ((holds_ahead _ _ m _ _ _ hH) t ht).2
        have HW := Lib.hid hw2
        have HG := Lib.hid hG
        have HI := Lib.hid hI
        clear hw2 hG hI hH
        have out : (j ≤ a ∨ ltInt dj[j]! dj[j - 1]! = false) → ∀ q, ∃ i' n' dk', Value.int .i64 ((i : Int) + 1) = .int .i64 (i' : Nat) ∧ a < i' ∧ i' ≤ b + 1 ∧ dk'.size = d.size ∧
            wr.drewN q = putRow (Value.int .u64) (Sort.ahead w n') blk off dk' ∧ insOuter ltInt a b i' dk' = insOuter ltInt a b (a + 1) d := fun hs q =>
          ⟨i + 1, m + q, dj, by go_num, by omega, by omega, hsj, by rw [HW.out]; exact putRow_drewN _ _ _ _ _ _ _,
            by rw [← HO.out, insOuter_go _ _ _ _ _ hlt, ← HI.out, insInner_stop _ _ _ _ hs]⟩
        have OUT := Lib.hid out
        clear out
        go_wp2
        by_cases hja : a < j
        · go_quiet (first | (go_at_call 108; refine Calls.quiet_of_same (less_u _ _ _)))
          go_wp2
          · have hl : ltInt (G j) (G (j - 1)) = true := by assumption
            go_region
            all_goals go_wp2
            go_roundw
            case rel =>
              refine ⟨j - 1, m + (nq + 1), swp dj j (j - 1), by congr 1; omega, by omega, by omega, by rw [size_swp]; exact hsj, ?_, ?_⟩
              · rw [HW.out, HG.out, HG.out]
                exact swap_worldA _ w m (nq + 1) blk off dj j (j - 1) (by omega) (by omega)
              · rw [← HI.out, insInner_go ltInt a j dj hja (by rw [← HG.out, ← HG.out]; exact hl)]
            case measure => simp [intOf]; omega
          · have hl : ltInt (G j) (G (j - 1)) = false := by assumption
            go_roundw
            case rel => exact OUT.out (Or.inr (by rw [← HG.out, ← HG.out]; exact hl)) nq
            case measure => simp [intOf]; omega
        · go_quiet (first | (go_at_call 108; refine Calls.quiet_of_same (less_u _ _ _)))
          go_wp2
          go_roundw
          case rel => exact OUT.out (Or.inl (by omega)) nq
          case measure => simp [intOf]; omega
    · have hge : ¬ i < b := by assumption
      go_end0
      exact ⟨rfl, n, by unfold Sort.insertionSort; rw [← HO.out, insOuter_stop _ _ _ _ _ hge]⟩
end Go.Proofs.Ytofgcacahfdjdaa
namespace Go.Proofs.Ytofgcacahfdjdaa
set_option linter.unusedVariables false
set_option linter.unusedSimpArgs false
open Go.RowKit Go.Sort Go.Proofs
/-- What a row holds behind some draws, its numbers under one name. -/
theorem famU {w wr : World} {m blk off : Nat} {d dj : Array Int} (hH : Holds (Value.int .u64) w blk off d) (hs : dj.size = d.size) (hw : wr = putRow (Value.int .u64) (Sort.ahead w m) blk off dj) :
    ∃ G : Nat → Int, (∀ t, G t = dj[t]!) ∧ (∀ t, t < d.size → wr.cell? ⟨blk, off + t, none⟩ = some (.int .u64 (G t))) ∧ (∀ t, t < d.size → wr.frozen? ⟨blk, off + t, none⟩ = false) :=
  ⟨fun t => dj[t]!, fun _ => rfl, fun t ht => by rw [hw]; exact cell?_putRow _ _ _ _ d dj (holds_ahead _ _ _ _ _ _ hH) hs t (by omega), fun t ht => by rw [hw, frozen?_putRow]; exact ((holds_ahead _ _ m _ _ _ hH) t ht).2⟩
set_option maxHeartbeats 2000000 in
theorem siftDown_u (blk off len cap lo hi first : Nat) (d : Array Int) (hlen : d.size = len) (w : World) (hH : Holds (Value.int .u64) w blk off d) (hb : first + hi ≤ d.size) (hlo : lo ≤ hi) (hsz : d.size < 4611686018427387904) :
    Calls Try.prog 117 #[.slice (some ⟨blk, off, none⟩) len cap, .int .i64 lo, .int .i64 hi, .int .i64 first] w fun e w' =>
      e = .returned (.tuple #[]) ∧ ∃ n, w' = putRow (Value.int .u64) (Sort.ahead w n) blk off (siftDown ltInt hi first lo d) := by
  subst hlen
  go_enter Try.func117, Try.ntmps117
  go_wp2
  go_loopw [8] (fun vi wr => ∃ (i n : Nat) (dk : Array Int), vi = .int .i64 i ∧ i ≤ hi ∧ dk.size = d.size ∧ wr = putRow (Value.int .u64) (Sort.ahead w n) blk off dk ∧
      siftDown ltInt hi first i dk = siftDown ltInt hi first lo d) (fun vi _ => hi - (intOf vi).toNat)
  case atStart => exact ⟨lo, 0, d, rfl, hlo, rfl, (putRow_self _ _ _ _ _ hH).symm, rfl⟩
  case round =>
    obtain ⟨i, n, dk, rfl, hi1, hsk, hwr, hO⟩ := hrel
    obtain ⟨G, hG, hcw, hfw⟩ := famU hH hsk hwr
    have HO := Lib.hid hO; have HG := Lib.hid hG; have HW := Lib.hid hwr
    clear hO hG hwr hH
    have DR : ∀ m, wr.drewN m = putRow (Value.int .u64) (Sort.ahead w (n + m)) blk off dk := fun m => by rw [HW.out]; exact putRow_drewN _ _ _ _ _ _ _
    have HDR := Lib.hid DR
    clear DR
    have e1 : first + (2 * i + 1) = first + 2 * i + 1 := by omega
    have e2 : first + (2 * i + 2) = first + 2 * i + 2 := by omega
    by_cases c1 : 2 * i + 1 < hi
    · by_cases c2 : 2 * i + 2 < hi
      · have g1 : decide (2 * (i : Int) + 1 + 1 < (hi : Int)) = true := decide_eq_true (by omega)
        have g2 : (2 * (i : Int) + 1 + 1 < (hi : Int)) := by omega
        go_wp2
        go_quiet (first | (go_at_call 108; exact Calls.quiet_of_same (less_u _ _ _)) | (go_at_call 108; exact quiet_add_same (less_u _ _ _)))
        go_wp2
        all_goals
          go_quiet (first | (go_at_call 108; exact Calls.quiet_of_same (less_u _ _ _)) | (go_at_call 108; exact quiet_add_same (less_u _ _ _)))
          go_wp2
        · have l12 : ltInt (G (first + 2 * i + 1)) (G (first + 2 * i + 2)) = true := by assumption
          have l0 : (!ltInt (G (first + i)) (G (first + 2 * i + 2))) = true := by assumption
          refine bodyPost_ret (results_none rfl _ _ _) rfl ?_
          exact ⟨rfl, _, by rw [HDR.out, putRow_drewN, ← HO.out, sd_right_stop ltInt dk c2 (by rw [e1, e2, ← HG.out, ← HG.out]; exact l12) (by rw [e2, ← HG.out, ← HG.out]; simpa using l0)]⟩
        · have l12 : ltInt (G (first + 2 * i + 1)) (G (first + 2 * i + 2)) = true := by assumption
          have l0 : (!ltInt (G (first + i)) (G (first + 2 * i + 2))) = false := by assumption
          go_region
          all_goals go_wp2
          go_roundw
          case rel =>
            refine ⟨2 * i + 2, _, swp dk (first + i) (first + 2 * i + 2), by first | rfl | (congr 1; omega), by omega, by rw [size_swp]; exact hsk, swapU HW.out (by omega) (by omega) (HG.out _) (HG.out _), ?_⟩
            rw [← HO.out, sd_right_go ltInt dk c2 (by rw [e1, e2, ← HG.out, ← HG.out]; exact l12) (by rw [e2, ← HG.out, ← HG.out]; simpa using l0), e2]
          case measure => simp [intOf]; omega
        · have l12 : ltInt (G (first + 2 * i + 1)) (G (first + 2 * i + 2)) = false := by assumption
          have l0 : (!ltInt (G (first + i)) (G (first + 2 * i + 1))) = true := by assumption
          refine bodyPost_ret (results_none rfl _ _ _) rfl ?_
          exact ⟨rfl, _, by rw [HDR.out, putRow_drewN, ← HO.out, sd_left_stop ltInt dk c1 (fun _ => by rw [e1, e2, ← HG.out, ← HG.out]; exact l12) (by rw [e1, ← HG.out, ← HG.out]; simpa using l0)]⟩
        · have l12 : ltInt (G (first + 2 * i + 1)) (G (first + 2 * i + 2)) = false := by assumption
          have l0 : (!ltInt (G (first + i)) (G (first + 2 * i + 1))) = false := by assumption
          go_region
          all_goals go_wp2
          go_roundw
          case rel =>
            refine ⟨2 * i + 1, _, swp dk (first + i) (first + 2 * i + 1), by first | rfl | (congr 1; omega), by omega, by rw [size_swp]; exact hsk, swapU HW.out (by omega) (by omega) (HG.out _) (HG.out _), ?_⟩
            rw [← HO.out, sd_left_go ltInt dk c1 (fun _ => by rw [e1, e2, ← HG.out, ← HG.out]; exact l12) (by rw [e1, ← HG.out, ← HG.out]; simpa using l0), e1]
          case measure => simp [intOf]; omega
      · have g1 : decide (2 * (i : Int) + 1 + 1 < (hi : Int)) = false := decide_eq_false (by omega)
        have g2 : ¬ (2 * (i : Int) + 1 + 1 < (hi : Int)) := by omega
        go_wp2
        go_quiet (first | (go_at_call 108; exact Calls.quiet_of_same (less_u _ _ _)) | (go_at_call 108; exact quiet_add_same (less_u _ _ _)))
        go_wp2
        go_quiet (first | (go_at_call 108; exact Calls.quiet_of_same (less_u _ _ _)) | (go_at_call 108; exact quiet_add_same (less_u _ _ _)))
        go_wp2
        · have l0 : (!ltInt (G (first + i)) (G (first + 2 * i + 1))) = true := by assumption
          refine bodyPost_ret (results_none rfl _ _ _) rfl ?_
          exact ⟨rfl, _, by rw [HDR.out, putRow_drewN, ← HO.out, sd_left_stop ltInt dk c1 (fun h => absurd h c2) (by rw [e1, ← HG.out, ← HG.out]; simpa using l0)]⟩
        · have l0 : (!ltInt (G (first + i)) (G (first + 2 * i + 1))) = false := by assumption
          go_region
          all_goals go_wp2
          go_roundw
          case rel =>
            refine ⟨2 * i + 1, _, swp dk (first + i) (first + 2 * i + 1), by first | rfl | (congr 1; omega), by omega, by rw [size_swp]; exact hsk, swapU HW.out (by omega) (by omega) (HG.out _) (HG.out _), ?_⟩
            rw [← HO.out, sd_left_go ltInt dk c1 (fun h => absurd h c2) (by rw [e1, ← HG.out, ← HG.out]; simpa using l0), e1]
          case measure => simp [intOf]; omega
    · go_wp2
      go_end0
      exact ⟨rfl, n, by rw [HW.out, ← HO.out, sd_end ltInt dk (by omega)]⟩
end Go.Proofs.Ytofgcacahfdjdaa
namespace Go.Proofs.Ytofgcacahfdjdaa
set_option linter.unusedVariables false
set_option linter.unusedSimpArgs false
open Go.RowKit Go.Sort Go.Proofs
theorem reverseLoop_go (i j : Nat) (d : Array Int) (h : i < j) : reverseLoop i j d = reverseLoop (i + 1) (j - 1) (swp d i j) := by rw [reverseLoop, if_pos h]
theorem reverseLoop_end (i j : Nat) (d : Array Int) (h : ¬ i < j) : reverseLoop i j d = d := by rw [reverseLoop, if_neg h]
set_option maxHeartbeats 1000000 in
theorem reverseRange_u (blk off len cap a b : Nat) (d : Array Int) (hlen : d.size = len) (w : World) (hH : Holds (Value.int .u64) w blk off d) (hab : a < b) (hb : b ≤ d.size) (hsz : d.size < 4611686018427387904) :
    Calls Try.prog 106 #[.slice (some ⟨blk, off, none⟩) len cap, .int .i64 a, .int .i64 b] w fun e w' =>
      e = .returned (.tuple #[]) ∧ ∃ n, w' = putRow (Value.int .u64) (Sort.ahead w n) blk off (Sort.reverseRange d a b) := by
  subst hlen
  have e0 : (b : Int) - 1 = ((b - 1 : Nat) : Int) := by omega
  go_enter Try.func106, Try.ntmps106
  go_wp2
  go_loopw [6, 7] (fun vi vj wr => ∃ (i j n : Nat) (dk : Array Int), vi = .int .i64 i ∧ vj = .int .i64 j ∧ i ≤ j + 1 ∧ j < b ∧ dk.size = d.size ∧ wr = putRow (Value.int .u64) (Sort.ahead w n) blk off dk ∧
      reverseLoop i j dk = reverseLoop a (b - 1) d) (fun vi _ _ => b - (intOf vi).toNat)
  case atStart => exact ⟨a, b - 1, 0, d, rfl, by first | rfl | rw [e0], by omega, by omega, rfl, (putRow_self _ _ _ _ _ hH).symm, rfl⟩
  case round =>
    obtain ⟨i, j, n, dk, rfl, rfl, hij, hjb, hsk, hwr, hO⟩ := hrel
    obtain ⟨G, hG, hcw, hfw⟩ := famU hH hsk hwr
    have HO := Lib.hid hO; have HG := Lib.hid hG; have HW := Lib.hid hwr
    clear hO hG hwr hH e0
    by_cases c : i < j
    · go_wp2
      go_region
      all_goals go_wp2
      go_roundw
      case rel => exact ⟨i + 1, j - 1, _, swp dk i j, by go_num, by congr 1; omega, by omega, by omega, by rw [size_swp]; exact hsk, swapU (q := 1) HW.out (by omega) (by omega) (HG.out _) (HG.out _), by rw [← HO.out, reverseLoop_go i j dk c]⟩
      case measure => simp [intOf]; omega
    · go_wp2
      go_end0
      exact ⟨rfl, n, by rw [HW.out, Sort.reverseRange, ← HO.out, reverseLoop_end i j dk c]⟩
theorem size_sift (hi F root : Nat) (d : Array Int) : (siftDown ltInt hi F root d).size = d.size := size_siftDown ltInt hi F _ root d (Nat.le_refl _)
theorem build_go (hi F k : Nat) (d : Array Int) : heapBuild ltInt hi F (k + 1) d = heapBuild ltInt hi F k (siftDown ltInt hi F k d) := rfl
theorem pop_go (F k : Nat) (d : Array Int) : heapPop ltInt F (k + 1) d = heapPop ltInt F k (siftDown ltInt k F 0 (swp d F (F + k))) := rfl
set_option maxHeartbeats 2000000 in
theorem heapSort_u (blk off len cap a b : Nat) (d : Array Int) (hlen : d.size = len) (w : World) (hH : Holds (Value.int .u64) w blk off d) (hab : a ≤ b) (hb : b ≤ d.size) (hsz : d.size < 4611686018427387904) :
    Calls Try.prog 103 #[.slice (some ⟨blk, off, none⟩) len cap, .int .i64 a, .int .i64 b] w fun e w' =>
      e = .returned (.tuple #[]) ∧ ∃ n, w' = putRow (Value.int .u64) (Sort.ahead w n) blk off (Sort.heapSort ltInt d a b) := by
  subst hlen
  obtain ⟨hi, hhi⟩ : ∃ hi : Nat, b - a = hi := ⟨_, rfl⟩
  have e0 : (b : Int) - (a : Int) = (hi : Int) := by omega
  have hs := half_start hab
  rw [e0, hhi] at hs
  obtain ⟨T, hT⟩ : ∃ T : Int, T = (((hi - 1) / 2 + 1 : Nat) : Int) - 1 := ⟨_, rfl⟩
  rw [← hT] at hs
  have HS := Lib.hid hs
  have HT := Lib.hid hT
  clear hT
  have HE := Lib.hid e0
  have HI := Lib.hid hhi
  have hb2 : a + hi ≤ d.size := by omega
  have hh : heapSort ltInt d a b = heapPop ltInt a hi (heapBuild ltInt hi a ((hi - 1) / 2 + 1) d) := by unfold Sort.heapSort; rw [hhi]
  have HH := Lib.hid hh
  clear e0 hs hhi hh
  go_enter Try.func103, Try.ntmps103
  go_wp2
  rw [HE.out, HS.out]
  go_loopw [9] (fun vi wr => ∃ (k n : Nat) (z : Int) (dk : Array Int), vi = .int .i64 z ∧ z = (k : Int) - 1 ∧ k ≤ (hi - 1) / 2 + 1 ∧ dk.size = d.size ∧ wr = putRow (Value.int .u64) (Sort.ahead w n) blk off dk ∧
      heapBuild ltInt hi a k dk = heapBuild ltInt hi a ((hi - 1) / 2 + 1) d) (fun vi _ => (intOf vi + 1).toNat)
  case atStart => exact ⟨_, 0, _, d, rfl, HT.out, Nat.le_refl _, rfl, (putRow_self _ _ _ _ _ hH).symm, rfl⟩
  case round =>
    obtain ⟨k, n, z, dk, rfl, hz, hk, hsk, hwr, hO⟩ := hrel
    have HO := Lib.hid hO; have HW := Lib.hid hwr; have HK := Lib.hid hsk
    clear hO hwr
    rcases Nat.eq_zero_or_pos k with hk0 | hk0
    · subst hk0
      have hz2 : ¬ (0 ≤ z) := by omega
      have hz3 : decide (0 ≤ z) = false := decide_eq_false hz2
      go_wp2
      go_loopw [10] (fun vi wr => ∃ (k n : Nat) (z : Int) (dj : Array Int), vi = .int .i64 z ∧ z = (k : Int) - 1 ∧ k ≤ hi ∧ dj.size = d.size ∧ wr = putRow (Value.int .u64) (Sort.ahead w n) blk off dj ∧
          heapPop ltInt a k dj = heapPop ltInt a hi dk) (fun vi _ => (intOf vi + 1).toNat)
      case atStart => exact ⟨hi, n, _, dk, rfl, rfl, Nat.le_refl _, HK.out, HW.out, rfl⟩
      case round =>
        obtain ⟨k, n, z, dj, rfl, hz, hk, hsj, hwr, hP⟩ := hrel
        obtain ⟨G, hG, hcw, hfw⟩ := famU hH hsj hwr
        have HP := Lib.hid hP; have HG := Lib.hid hG; have HW := Lib.hid hwr
        clear hP hG hwr hz2 hz3
        rcases Nat.eq_zero_or_pos k with hk0 | hk0
        · subst hk0
          have hz2 : ¬ (0 ≤ z) := by omega
          have hz3 : decide (0 ≤ z) = false := decide_eq_false hz2
          go_wp2
          go_end0
          exact ⟨rfl, n, by rw [HW.out, HH.out, ← HO.out]; exact congrArg _ (show dj = _ by rw [show heapBuild ltInt hi a 0 dk = dk from rfl, ← HP.out]; rfl)⟩
        · obtain ⟨k, rfl⟩ : ∃ m, k = m + 1 := ⟨k - 1, by omega⟩
          obtain rfl : z = (k : Int) := by omega
          clear hz
          have hca := hcw a (by omega)
          have hck := hcw (a + k) (by omega)
          obtain ⟨v', hy'⟩ := cell?_setCell_some (w := wr) (p := ⟨blk, off + a, none⟩) (x := .int .u64 (G (a + k))) (q := ⟨blk, off + (a + k), none⟩) (v := .int .u64 (G (a + k))) hck
          go_wp2
          go_region
          have SW := fun q x y (hx : x = dj[a + k]!) (hy : y = dj[a]!) => swapU (q := q) HW.out (j := a) (k := a + k) (by omega) (by omega) hx hy
          have hHr := holdsU hH hsj HW.out
          have SZ := size_swp dj a (a + k)
          have SW2 : ((wr.setCell ⟨blk, off + a, none⟩ (.int .u64 (G (a + k)))).setCell ⟨blk, off + (a + k), none⟩ (.int .u64 (G a))).drew = putRow (Value.int .u64) (Sort.ahead w (n + 1)) blk off (swp dj a (a + k)) := SW 1 _ _ (HG.out _) (HG.out _)
          obtain ⟨W2, hW2⟩ : ∃ W2, putRow (Value.int .u64) (Sort.ahead w (n + 1)) blk off (swp dj a (a + k)) = W2 := ⟨_, rfl⟩
          have C := siftDown_u blk off d.size cap 0 k a (swp dj a (a + k)) (by rw [SZ]; exact hsj) W2 (holdsU hH (by rw [SZ]; exact hsj) hW2.symm) (by rw [SZ]; omega) (by omega) (by rw [SZ]; omega)
          rw [hW2] at SW2
          have HW2 := Lib.hid hW2; have HSW2 := Lib.hid SW2
          clear hW2 SW2 hca hck hy' hcw hfw SW hHr
          all_goals
            rw [HSW2.out]
            go_wp2_with (go_at_call 117; refine C.mono ?_; rintro e w1 ⟨rfl, q, rfl⟩; clear C)
            go_roundw
            case rel => first | exact ⟨k, _, _, siftDown ltInt k a 0 (swp dj a (a + k)), rfl, by first | rfl | omega, by omega, by rw [size_sift, SZ]; exact hsj, thenU HW2.out.symm (size_sift _ _ _ _), by rw [← HP.out, pop_go]⟩ | ((repeat apply Exists.intro); exact ⟨⟨k, _, _, siftDown ltInt k a 0 (swp dj a (a + k)), rfl, by first | rfl | omega, by omega, by rw [size_sift, SZ]; exact hsj, thenU HW2.out.symm (size_sift _ _ _ _), by rw [← HP.out, pop_go]⟩, rfl⟩)
            case measure => first | (simp [intOf]; done) | (simp [intOf]; omega)
    · obtain ⟨k, rfl⟩ : ∃ m, k = m + 1 := ⟨k - 1, by omega⟩
      obtain rfl : z = (k : Int) := by omega
      clear hz
      have hHr := holdsU hH hsk HW.out
      have C := siftDown_u blk off d.size cap k hi a dk hsk wr hHr (by omega) (by omega) (by omega)
      clear hHr
      go_wp2_with (go_at_call 117; refine C.mono ?_; rintro e w1 ⟨rfl, q, rfl⟩; clear C)
      go_roundw
      case rel => first | exact ⟨k, _, _, siftDown ltInt hi a k dk, rfl, by first | rfl | omega, by omega, by rw [size_sift]; exact HK.out, thenU HW.out (size_sift _ _ _ _), by rw [← HO.out, build_go]⟩ | ((repeat apply Exists.intro); exact ⟨⟨k, _, _, siftDown ltInt hi a k dk, rfl, by first | rfl | omega, by omega, by rw [size_sift]; exact HK.out, thenU HW.out (size_sift _ _ _ _), by rw [← HO.out, build_go]⟩, rfl⟩)
      case measure => first | (simp [intOf]; done) | (simp [intOf]; omega)
end Go.Proofs.Ytofgcacahfdjdaa
namespace Go.Proofs.Ytofgcacahfdjdaa
set_option linter.unusedVariables false
set_option linter.unusedSimpArgs false
open Go.RowKit Go.Sort Go.Proofs
theorem scan_range (d : Array Int) (b : Nat) : ∀ (n i : Nat), b - i ≤ n → i ≤ b → i ≤ scanSorted ltInt d b i ∧ scanSorted ltInt d b i ≤ b := by
  intro n
  induction n with
  | zero => intro i h hi; rw [scanSorted_stop ltInt d b i (.inl (by omega))]; omega
  | succ n ih =>
    intro i h hi
    by_cases c : i < b
    · cases hl : ltInt d[i]! d[i - 1]! with
      | true => rw [scanSorted_stop ltInt d b i (.inr hl)]; omega
      | false => rw [scanSorted_go ltInt d b i c hl]; have := ih (i + 1) (by omega) (by omega); omega
    · rw [scanSorted_stop ltInt d b i (.inl c)]; omega
set_option maxHeartbeats 4000000 in
set_option maxRecDepth 100000 in
theorem partialIns_u (blk off len cap a b : Nat) (d : Array Int) (hlen : d.size = len) (w : World) (hH : Holds (Value.int .u64) w blk off d) (hab : a < b) (hb : b ≤ d.size) (hsz : d.size < 4611686018427387904) :
    Calls Try.prog 107 #[.slice (some ⟨blk, off, none⟩) len cap, .int .i64 a, .int .i64 b] w fun e w' =>
      e = .returned (.bool (Sort.partialInsertionSort ltInt d a b).2) ∧ ∃ n, w' = putRow (Value.int .u64) (Sort.ahead w n) blk off (Sort.partialInsertionSort ltInt d a b).1 := by
  subst hlen
  go_enter Try.func107, Try.ntmps107
  go_wp2
  go_loopw [7, 8] (fun vi vs wr => ∃ (i s n : Nat) (dk : Array Int), vi = .int .i64 i ∧ vs = .int .i64 s ∧ s ≤ 5 ∧ a < i ∧ i ≤ b ∧ dk.size = d.size ∧ wr = putRow (Value.int .u64) (Sort.ahead w n) blk off dk ∧
      partialIns ltInt a b (5 - s) i dk = Sort.partialInsertionSort ltInt d a b) (fun _ vs _ => 5 - (intOf vs).toNat)
  case atStart => exact ⟨a + 1, 0, 0, d, by go_num, rfl, by omega, by omega, by omega, rfl, (putRow_self _ _ _ _ _ hH).symm, rfl⟩
  case round =>
    obtain ⟨i, s, n, dk, rfl, rfl, hs5, hai, hib, hsk, hwr, hO⟩ := hrel
    have HO := Lib.hid hO; have HW := Lib.hid hwr
    clear hO hwr
    by_cases c5 : s < 5
    · go_upto_block 2 with (fail)
      go_cut [7] (fun v7 wc => ∃ (i2 m : Nat), v7 = .int .i64 i2 ∧ Hid (scanSorted ltInt dk b i = i2) ∧ Hid (wc = putRow (Value.int .u64) (Sort.ahead w m) blk off dk))
      case first =>
        go_wp2
        go_loopw [7] (fun vi wr2 => ∃ (j m : Nat), vi = .int .i64 j ∧ a < j ∧ j ≤ b ∧ wr2 = putRow (Value.int .u64) (Sort.ahead w m) blk off dk ∧ scanSorted ltInt dk b j = scanSorted ltInt dk b i) (fun vi _ => b - (intOf vi).toNat)
        case atStart => exact ⟨i, n, rfl, hai, hib, HW.out, rfl⟩
        case round =>
          obtain ⟨j, m, rfl, haj, hjb, hw2, hI⟩ := hrel
          obtain ⟨G, hG, hcw, hfw⟩ := famU hH hsk hw2
          have HI := Lib.hid hI; have HG := Lib.hid hG; have HW2 := Lib.hid hw2
          clear hI hG hw2
          by_cases hjb2 : j < b
          · go_wp2
            go_quiet (first | (go_at_call 108; exact Calls.quiet_of_same (less_u _ _ _)) | (go_at_call 108; exact quiet_add_same (less_u _ _ _)))
            go_wp2
            · have hl : (!ltInt (G j) (G (j - 1))) = true := by assumption
              go_roundw
              case rel => exact ⟨j + 1, _, by go_num, by omega, by omega, by rw [HW2.out]; exact putRow_drewN _ _ _ _ _ _ _, by rw [← HI.out, scanSorted_go ltInt dk b j hjb2 (by rw [← HG.out, ← HG.out]; simpa using hl)]⟩
              case measure => simp [intOf]; omega
            · have hl : (!ltInt (G j) (G (j - 1))) = false := by assumption
              go_meet
              case rel => exact ⟨j, _, rfl, Lib.hid (by rw [← HI.out, scanSorted_stop ltInt dk b j (.inr (by rw [← HG.out, ← HG.out]; simpa using hl))]), Lib.hid (by rw [HW2.out]; exact putRow_drewN _ _ _ _ _ _ _)⟩
          · go_wp2
            go_quiet (first | (go_at_call 108; exact Calls.quiet_of_same (less_u _ _ _)) | (go_at_call 108; exact quiet_add_same (less_u _ _ _)))
            go_wp2
            go_meet
            case rel => exact ⟨j, _, rfl, Lib.hid (by rw [← HI.out, scanSorted_stop ltInt dk b j (.inl hjb2)]), Lib.hid (by rw [HW2.out]; exact putRow_drewN _ _ _ _ _ _ _)⟩
      case rest =>
        obtain ⟨i2, m, rfl, HS, HW2⟩ := hcut
        have hr := scan_range dk b _ i (Nat.le_refl _) hib
        rw [HS.out] at hr
        by_cases hib2 : i2 = b
        · have PE := pi_true ltInt a b s i dk c5 (by rw [HS.out, hib2])
          rw [HO.out] at PE
          have HPE := Lib.hid PE
          subst hib2
          clear PE
          go_wp2
          refine bodyPost_ret (v := .bool true) (by simp [results, Try.results107, go_sem]) rfl ⟨by rw [HPE.out], m, by rw [HW2.out, HPE.out]⟩
        · by_cases h50 : b - a < 50
          · have PE := pi_short ltInt a b s i dk c5 (by rw [HS.out]; exact hib2) h50
            rw [HO.out] at PE
            have HPE := Lib.hid PE
            clear PE
            go_wp2
            refine bodyPost_ret (v := .bool false) (by simp [results, Try.results107, go_sem]) rfl ⟨by rw [HPE.out], m, by rw [HW2.out, HPE.out]⟩
          · have PE := pi_go ltInt a b s i i2 dk c5 HS.out hib2 h50
            rw [HO.out] at PE
            have HPE := Lib.hid PE
            clear PE
            obtain ⟨G, hG, hcw, hfw⟩ := famU hH hsk HW2.out
            have HG := Lib.hid hG
            clear hG
            go_wp2
            go_region
            all_goals go_upto_if 61 with (fail)
            refine name_world _ (fun W3 HW3 => ?_)
            have HW4 : Hid (W3 = putRow (Value.int .u64) (Sort.ahead w (m + 1)) blk off (swp dk i2 (i2 - 1))) := Lib.hid (by rw [← HW3.out]; exact swapU (q := 1) HW2.out (by omega) (by omega) (HG.out _) (HG.out _))
            have hs1 : (swp dk i2 (i2 - 1)).size = d.size := by rw [size_swp]; exact hsk
            obtain ⟨d1, hd1⟩ : ∃ d1, swp dk i2 (i2 - 1) = d1 := ⟨_, rfl⟩
            rw [hd1] at HPE HW4 hs1
            have HD1 := Lib.hid hd1
            clear hd1 HW3 hcw hfw
            go_cut [9] (fun v9 wc => ∃ (m2 : Nat) (d2 : Array Int), Hid (fixDown ltInt a i2 d1 = d2) ∧ d2.size = d.size ∧ Hid (wc = putRow (Value.int .u64) (Sort.ahead w m2) blk off d2))
            case first =>
              by_cases h2 : 2 ≤ i2 - a
              · go_wp2
                go_loopw [9] (fun vi wr2 => ∃ (j m : Nat) (dj : Array Int), vi = .int .i64 j ∧ j < i2 ∧ dj.size = d.size ∧ wr2 = putRow (Value.int .u64) (Sort.ahead w m) blk off dj ∧ shiftDown ltInt j dj = shiftDown ltInt (i2 - 1) d1) (fun vi _ => (intOf vi).toNat)
                case atStart => exact ⟨i2 - 1, m + 1, d1, by congr 1; omega, by omega, hs1, HW4.out, rfl⟩
                case round =>
                  obtain ⟨j, m, dj, rfl, hj, hsj, hw2, hI⟩ := hrel
                  obtain ⟨G, hG, hcw, hfw⟩ := famU hH hsj hw2
                  have HI := Lib.hid hI; have HG := Lib.hid hG; have HW6 := Lib.hid hw2
                  have hfd : fixDown ltInt a i2 d1 = shiftDown ltInt (i2 - 1) d1 := if_pos h2
                  have HFD := Lib.hid hfd
                  clear hI hG hw2 hfd
                  by_cases hj1 : 1 ≤ j
                  · go_wp2
                    go_quiet (first | (go_at_call 108; exact Calls.quiet_of_same (less_u _ _ _)) | (go_at_call 108; exact quiet_add_same (less_u _ _ _)))
                    go_wp2
                    · have hl : (!ltInt (G j) (G (j - 1))) = true := by assumption
                      go_meet
                      case rel => exact ⟨_, dj, Lib.hid (by rw [HFD.out, ← HI.out, shiftDown_stop ltInt j dj (.inr (by rw [← HG.out, ← HG.out]; simpa using hl))]), hsj, Lib.hid (by rw [HW6.out]; exact putRow_drewN _ _ _ _ _ _ _)⟩
                    · have hl : (!ltInt (G j) (G (j - 1))) = false := by assumption
                      go_region
                      all_goals go_wp2
                      go_roundw
                      case rel => exact ⟨j - 1, _, swp dj j (j - 1), by congr 1; omega, by omega, by rw [size_swp]; exact hsj, swapU HW6.out (by omega) (by omega) (HG.out _) (HG.out _), by rw [← HI.out, shiftDown_go ltInt j dj hj1 (by rw [← HG.out, ← HG.out]; simpa using hl)]⟩
                      case measure => simp [intOf]; omega
                  · go_wp2
                    go_meet
                    case rel => exact ⟨_, dj, Lib.hid (by rw [HFD.out, ← HI.out, shiftDown_stop ltInt j dj (.inl (by omega))]), hsj, HW6⟩
              · have hfd : fixDown ltInt a i2 d1 = d1 := if_neg h2
                go_wp2
                go_meet
                case rel => exact ⟨_, d1, Lib.hid hfd, hs1, HW4⟩
            case rest =>
              obtain ⟨m2, d2, HD2, hs2, HW5⟩ := hcut
              have fin : ∀ (d3 : Array Int) (m3 : Nat) (wz : World), d3.size = d.size → wz = putRow (Value.int .u64) (Sort.ahead w m3) blk off d3 → fixUp ltInt b i2 d2 = d3 → d3.size = d.size ∧ wz = putRow (Value.int .u64) (Sort.ahead w m3) blk off d3 ∧ partialIns ltInt a b (5 - (s + 1)) i2 d3 = Sort.partialInsertionSort ltInt d a b := fun d3 m3 wz h1 h2 h3 => ⟨h1, h2, by rw [HPE.out, HD2.out, h3]⟩
              have FIN := Lib.hid fin
              clear fin
              by_cases h2 : 2 ≤ b - i2
              · go_wp2
                go_loopw [10] (fun vi wr2 => ∃ (j m : Nat) (dj : Array Int), vi = .int .i64 j ∧ i2 < j ∧ j ≤ b ∧ dj.size = d.size ∧ wr2 = putRow (Value.int .u64) (Sort.ahead w m) blk off dj ∧ shiftUp ltInt b j dj = shiftUp ltInt b (i2 + 1) d2) (fun vi _ => b - (intOf vi).toNat)
                case atStart => exact ⟨i2 + 1, m2, d2, by go_num, by omega, by omega, hs2, HW5.out, rfl⟩
                case round =>
                  obtain ⟨j, m, dj, rfl, hj, hjb, hsj, hw2, hI⟩ := hrel
                  obtain ⟨G, hG, hcw, hfw⟩ := famU hH hsj hw2
                  have HI := Lib.hid hI; have HG := Lib.hid hG; have HW6 := Lib.hid hw2
                  have hfd : fixUp ltInt b i2 d2 = shiftUp ltInt b (i2 + 1) d2 := if_pos h2
                  have HFD := Lib.hid hfd
                  clear hI hG hw2 hfd
                  by_cases hj1 : j < b
                  · go_wp2
                    go_quiet (first | (go_at_call 108; exact Calls.quiet_of_same (less_u _ _ _)) | (go_at_call 108; exact quiet_add_same (less_u _ _ _)))
                    go_wp2
                    · have hl : (!ltInt (G j) (G (j - 1))) = true := by assumption
                      have FE := fun q => FIN.out dj (m + q) (wr.drewN q) hsj (by rw [HW6.out]; exact putRow_drewN _ _ _ _ _ _ _) (by rw [HFD.out, ← HI.out, shiftUp_stop ltInt b j dj (.inr (by rw [← HG.out, ← HG.out]; simpa using hl))])
                      have HFE := Lib.hid FE
                      clear FE
                      go_roundw
                      case rel => first | exact ⟨i2, s + 1, _, dj, rfl, by go_num, by omega, by omega, by omega, (HFE.out 0).1, (HFE.out _).2.1, (HFE.out 0).2.2⟩ | ((repeat apply Exists.intro); exact ⟨⟨i2, s + 1, _, dj, rfl, by go_num, by omega, by omega, by omega, (HFE.out 0).1, (HFE.out _).2.1, (HFE.out 0).2.2⟩, rfl⟩)
                      case measure => simp [intOf]; omega
                    · have hl : (!ltInt (G j) (G (j - 1))) = false := by assumption
                      go_region
                      all_goals go_wp2
                      go_roundw
                      case rel => exact ⟨j + 1, _, swp dj j (j - 1), by go_num, by omega, by omega, by rw [size_swp]; exact hsj, swapU HW6.out (by omega) (by omega) (HG.out _) (HG.out _), by rw [← HI.out, shiftUp_go ltInt b j dj hj1 (by rw [← HG.out, ← HG.out]; simpa using hl)]⟩
                      case measure => simp [intOf]; omega
                  · have FE := FIN.out dj m wr hsj HW6.out (by rw [HFD.out, ← HI.out, shiftUp_stop ltInt b j dj (.inl hj1)])
                    have HFE := Lib.hid FE
                    clear FE
                    go_wp2
                    go_roundw
                    case rel => first | exact ⟨i2, s + 1, _, dj, rfl, by go_num, by omega, by omega, by omega, HFE.out.1, HFE.out.2.1, HFE.out.2.2⟩ | ((repeat apply Exists.intro); exact ⟨⟨i2, s + 1, _, dj, rfl, by go_num, by omega, by omega, by omega, HFE.out.1, HFE.out.2.1, HFE.out.2.2⟩, rfl⟩)
                    case measure => simp [intOf]; omega
              · have FE := FIN.out d2 m2 _ hs2 HW5.out (if_neg h2)
                have HFE := Lib.hid FE
                clear FE
                go_wp2
                go_roundw
                case rel => first | exact ⟨i2, s + 1, _, d2, rfl, by go_num, by omega, by omega, by omega, HFE.out.1, HFE.out.2.1, HFE.out.2.2⟩ | ((repeat apply Exists.intro); exact ⟨⟨i2, s + 1, _, d2, rfl, by go_num, by omega, by omega, by omega, HFE.out.1, HFE.out.2.1, HFE.out.2.2⟩, rfl⟩)
                case measure => simp [intOf]; omega
    · have hs : s = 5 := by omega
      subst hs
      have PE := pi_end ltInt a b i dk
      rw [HO.out] at PE
      have HPE := Lib.hid PE
      clear PE
      go_wp2
      refine bodyPost_ret (v := .bool false) (by simp [results, Try.results107, go_sem]) rfl ⟨by rw [HPE.out], n, by rw [HW.out, HPE.out]⟩
end Go.Proofs.Ytofgcacahfdjdaa
namespace Go.Proofs.Ytofgcacahfdjdaa
set_option linter.unusedVariables false
set_option linter.unusedSimpArgs false
open Go.RowKit Go.Sort Go.Proofs
theorem selfU {w : World} {blk off : Nat} {d : Array Int} (hH : Holds (Value.int .u64) w blk off d) : w = putRow (Value.int .u64) (Sort.ahead w 0) blk off d := (putRow_self _ w _ _ _ hH).symm
set_option maxHeartbeats 4000000 in
set_option maxRecDepth 100000 in
theorem partitionEqual_u (blk off len cap a b pivot : Nat) (d : Array Int) (hlen : d.size = len) (w : World) (hH : Holds (Value.int .u64) w blk off d) (hap : a ≤ pivot) (hpb : pivot < b) (hb : b ≤ d.size) (hsz : d.size < 4611686018427387904) :
    Calls Try.prog 109 #[.slice (some ⟨blk, off, none⟩) len cap, .int .i64 a, .int .i64 b, .int .i64 pivot] w fun e w' =>
      e = .returned (.int .i64 (Sort.partitionEqual ltInt d a b pivot).1) ∧ ∃ n, w' = putRow (Value.int .u64) (Sort.ahead w n) blk off (Sort.partitionEqual ltInt d a b pivot).2 := by
  subst hlen
  obtain ⟨G, hG, hcw, hfw⟩ := famU hH rfl (selfU hH)
  have HG := Lib.hid hG
  clear hG
  have hc1 := hcw a (by omega)
  have hc2 := hcw pivot (by omega)
  obtain ⟨v', hy'⟩ := cell?_setCell_some (w := w) (p := ⟨blk, off + a, none⟩) (x := .int .u64 (G pivot)) (q := ⟨blk, off + pivot, none⟩) (v := .int .u64 (G pivot)) hc2
  go_enter Try.func109, Try.ntmps109
  go_wp2
  go_region
  have HWs : Hid (((w.setCell ⟨blk, off + a, none⟩ (.int .u64 (G pivot))).setCell ⟨blk, off + pivot, none⟩ (.int .u64 (G a))).drew = putRow (Value.int .u64) (Sort.ahead w (0 + 1)) blk off (swp d a pivot)) := Lib.hid (swapU (q := 1) (selfU hH) (by omega) (by omega) (HG.out _) (HG.out _))
  clear hcw hfw hc1 hc2 hy'
  have hs1 : (swp d a pivot).size = d.size := size_swp _ _ _
  obtain ⟨d1, hd1⟩ : ∃ d1, swp d a pivot = d1 := ⟨_, rfl⟩
  have hE : Sort.partitionEqual ltInt d a b pivot = partEqLoop ltInt a (a + 1) (b - 1) d1 := by unfold Sort.partitionEqual; rw [hd1]
  rw [hd1] at HWs hs1
  have HE := Lib.hid hE
  clear hd1 hE
  all_goals
    go_wp2
    refine name_world _ (fun W3 HW3 => ?_)
    have HW4 : Hid (W3 = putRow (Value.int .u64) (Sort.ahead w (0 + 1)) blk off d1) := Lib.hid (by rw [← HW3.out]; exact HWs.out)
    clear HW3 HWs
    go_loopw [9, 10] (fun vi vj wr => ∃ (i j n : Nat) (dk : Array Int), vi = .int .i64 i ∧ vj = .int .i64 j ∧ a < i ∧ i ≤ j + 1 ∧ j < b ∧ dk.size = d.size ∧ wr = putRow (Value.int .u64) (Sort.ahead w n) blk off dk ∧ partEqLoop ltInt a i j dk = partEqLoop ltInt a (a + 1) (b - 1) d1) (fun vi _ _ => b + 1 - (intOf vi).toNat)
    case atStart => exact ⟨a + 1, b - 1, 0 + 1, d1, by go_num, by first | rfl | (congr 1; omega), by omega, by omega, by omega, hs1, HW4.out, rfl⟩
    case round =>
      obtain ⟨i, j, n, dk, rfl, rfl, hai, hij, hjb, hsk, hwr, hO⟩ := hrel
      have HO := Lib.hid hO; have HW := Lib.hid hwr
      clear hO hwr
      go_upto_block 2 with (fail)
      go_cut [9] (fun v wc => ∃ (i2 m2 : Nat), v = .int .i64 i2 ∧ Hid (scanUp (fun x => !ltInt dk[a]! x) dk j i = i2) ∧ i ≤ i2 ∧ i2 ≤ j + 1 ∧ Hid (wc = putRow (Value.int .u64) (Sort.ahead w m2) blk off dk))
      case first =>
        go_wp2
        go_loopw [9] (fun v wr2 => ∃ (t m2 : Nat), v = .int .i64 t ∧ i ≤ t ∧ t ≤ j + 1 ∧ wr2 = putRow (Value.int .u64) (Sort.ahead w m2) blk off dk ∧ scanUp (fun x => !ltInt dk[a]! x) dk j t = scanUp (fun x => !ltInt dk[a]! x) dk j i) (fun v _ => j + 1 - (intOf v).toNat)
        case atStart => exact ⟨i, _, rfl, Nat.le_refl _, by omega, HW.out, rfl⟩
        case round =>
          obtain ⟨t, m2, rfl, ht1, ht2, hw2, hI⟩ := hrel
          obtain ⟨G, hG, hcw, hfw⟩ := famU hH hsk hw2
          have HI := Lib.hid hI; have HG := Lib.hid hG; have HW2 := Lib.hid hw2
          clear hI hG hw2
          by_cases c : t ≤ j
          · go_wp2
            go_quiet (first | (go_at_call 108; exact Calls.quiet_of_same (less_u _ _ _)) | (go_at_call 108; exact quiet_add_same (less_u _ _ _)))
            go_wp2
            · have hl : (!ltInt (G a) (G t)) = true := by assumption
              go_roundw
              case rel => exact ⟨t + 1, _, by go_num, by omega, by omega, by rw [HW2.out]; exact putRow_drewN _ _ _ _ _ _ _, by rw [← HI.out, scanUp_go (fun x => !ltInt dk[a]! x) dk j t c (by show ((!ltInt dk[a]! dk[t]!)) = true; rw [← HG.out, ← HG.out]; simpa using hl)]⟩
              case measure => simp [intOf]; omega
            · have hl : (!ltInt (G a) (G t)) = false := by assumption
              go_meet
              case rel => exact ⟨t, _, rfl, Lib.hid (by rw [← HI.out, scanUp_end (fun x => !ltInt dk[a]! x) dk j t (.inr (by show ((!ltInt dk[a]! dk[t]!)) = false; rw [← HG.out, ← HG.out]; simpa using hl))]), ht1, ht2, Lib.hid (by rw [HW2.out]; exact putRow_drewN _ _ _ _ _ _ _)⟩
          · go_wp2
            go_quiet (first | (go_at_call 108; exact Calls.quiet_of_same (less_u _ _ _)) | (go_at_call 108; exact quiet_add_same (less_u _ _ _)))
            go_wp2
            go_meet
            case rel => exact ⟨t, _, rfl, Lib.hid (by rw [← HI.out, scanUp_end (fun x => !ltInt dk[a]! x) dk j t (.inl c)]), ht1, ht2, Lib.hid (by rw [HW2.out]; exact putRow_drewN _ _ _ _ _ _ _)⟩
      case rest =>
        obtain ⟨i2, m3, rfl, HI2, hi2, hi2j, HW5⟩ := hcut
        go_upto_block 4 with (fail)
        go_cut [10] (fun v wc => ∃ (j2 m2 : Nat), v = .int .i64 j2 ∧ Hid (scanDown (fun x => ltInt dk[a]! x) dk i2 j = j2) ∧ j2 ≤ j ∧ i2 ≤ j2 + 1 ∧ Hid (wc = putRow (Value.int .u64) (Sort.ahead w m2) blk off dk))
        case first =>
          go_wp2
          go_loopw [10] (fun v wr2 => ∃ (t m2 : Nat), v = .int .i64 t ∧ t ≤ j ∧ i2 ≤ t + 1 ∧ wr2 = putRow (Value.int .u64) (Sort.ahead w m2) blk off dk ∧ scanDown (fun x => ltInt dk[a]! x) dk i2 t = scanDown (fun x => ltInt dk[a]! x) dk i2 j) (fun v _ => (intOf v).toNat)
          case atStart => exact ⟨j, _, rfl, Nat.le_refl _, by omega, HW5.out, rfl⟩
          case round =>
            obtain ⟨t, m2, rfl, ht1, ht2, hw2, hI⟩ := hrel
            obtain ⟨G, hG, hcw, hfw⟩ := famU hH hsk hw2
            have HI := Lib.hid hI; have HG := Lib.hid hG; have HW2 := Lib.hid hw2
            clear hI hG hw2
            by_cases c : i2 ≤ t
            · go_wp2
              go_quiet (first | (go_at_call 108; exact Calls.quiet_of_same (less_u _ _ _)) | (go_at_call 108; exact quiet_add_same (less_u _ _ _)))
              go_wp2
              · have hl : ltInt (G a) (G t) = true := by assumption
                go_roundw
                case rel => exact ⟨t - 1, _, by congr 1; omega, by omega, by omega, by rw [HW2.out]; exact putRow_drewN _ _ _ _ _ _ _, by rw [← HI.out, scanDown_go (fun x => ltInt dk[a]! x) dk i2 t c (by omega) (by show (ltInt dk[a]! dk[t]!) = true; rw [← HG.out, ← HG.out]; simpa using hl)]⟩
                case measure => simp [intOf]; omega
              · have hl : ltInt (G a) (G t) = false := by assumption
                go_meet
                case rel => exact ⟨t, _, rfl, Lib.hid (by rw [← HI.out, scanDown_end (fun x => ltInt dk[a]! x) dk i2 t (.inr (by show (ltInt dk[a]! dk[t]!) = false; rw [← HG.out, ← HG.out]; simpa using hl))]), ht1, ht2, Lib.hid (by rw [HW2.out]; exact putRow_drewN _ _ _ _ _ _ _)⟩
            · go_wp2
              go_quiet (first | (go_at_call 108; exact Calls.quiet_of_same (less_u _ _ _)) | (go_at_call 108; exact quiet_add_same (less_u _ _ _)))
              go_wp2
              go_meet
              case rel => exact ⟨t, _, rfl, Lib.hid (by rw [← HI.out, scanDown_end (fun x => ltInt dk[a]! x) dk i2 t (.inl c)]), ht1, ht2, Lib.hid (by rw [HW2.out]; exact putRow_drewN _ _ _ _ _ _ _)⟩
        case rest =>
          obtain ⟨j2, m4, rfl, HJ2, hj2, hij2, HW6⟩ := hcut
          by_cases c : j2 < i2
          · have PE := partEq_break ltInt a i j dk HI2.out.symm HJ2.out.symm c
            rw [HO.out, ← HE.out] at PE
            have HPE := Lib.hid PE
            clear PE
            go_wp2
            refine bodyPost_ret (v := .int .i64 i2) (by simp [results, Try.results109, go_sem]) rfl ⟨by rw [HPE.out], m4, by rw [HW6.out, HPE.out]⟩
          · have PE := partEq_go ltInt a i j dk HI2.out.symm HJ2.out.symm c
            have hlt := scans_lt ltInt a i j dk (by omega) HI2.out.symm HJ2.out.symm (by omega)
            rw [HO.out] at PE
            have HPE := Lib.hid PE
            clear PE
            obtain ⟨G, hG, hcw, hfw⟩ := famU hH hsk HW6.out
            have HG := Lib.hid hG
            clear hG
            go_wp2
            go_region
            all_goals go_wp2
            go_roundw
            case rel => exact ⟨i2 + 1, j2 - 1, _, swp dk i2 j2, by go_num, by congr 1; omega, by omega, by omega, by omega, by rw [size_swp]; exact hsk, swapU (q := 1) HW6.out (by omega) (by omega) (HG.out _) (HG.out _), HPE.out.symm⟩
            case measure => simp [intOf]; omega
end Go.Proofs.Ytofgcacahfdjdaa
namespace Go.Proofs.Ytofgcacahfdjdaa
set_option linter.unusedVariables false
set_option linter.unusedSimpArgs false
open Go.RowKit Go.Sort Go.Proofs
set_option maxHeartbeats 8000000 in
set_option maxRecDepth 100000 in
theorem partition_u (blk off len cap a b pivot : Nat) (d : Array Int) (hlen : d.size = len) (w : World) (hH : Holds (Value.int .u64) w blk off d) (hap : a ≤ pivot) (hpb : pivot < b) (hb : b ≤ d.size) (hsz : d.size < 4611686018427387904) :
    Calls Try.prog 110 #[.slice (some ⟨blk, off, none⟩) len cap, .int .i64 a, .int .i64 b, .int .i64 pivot] w fun e w' =>
      e = .returned (.tuple #[.int .i64 (Sort.partition ltInt d a b pivot).1, .bool (Sort.partition ltInt d a b pivot).2.1]) ∧ ∃ n, w' = putRow (Value.int .u64) (Sort.ahead w n) blk off (Sort.partition ltInt d a b pivot).2.2 := by
  subst hlen
  obtain ⟨G, hG, hcw, hfw⟩ := famU hH rfl (selfU hH)
  have HG := Lib.hid hG
  clear hG
  have hc1 := hcw a (by omega)
  have hc2 := hcw pivot (by omega)
  obtain ⟨v', hy'⟩ := cell?_setCell_some (w := w) (p := ⟨blk, off + a, none⟩) (x := .int .u64 (G pivot)) (q := ⟨blk, off + pivot, none⟩) (v := .int .u64 (G pivot)) hc2
  go_enter Try.func110, Try.ntmps110
  go_wp2
  go_region
  have HWs : Hid (((w.setCell ⟨blk, off + a, none⟩ (.int .u64 (G pivot))).setCell ⟨blk, off + pivot, none⟩ (.int .u64 (G a))).drew = putRow (Value.int .u64) (Sort.ahead w (0 + 1)) blk off (swp d a pivot)) := Lib.hid (swapU (q := 1) (selfU hH) (by omega) (by omega) (HG.out _) (HG.out _))
  clear hcw hfw hc1 hc2 hy'
  have hsk : (swp d a pivot).size = d.size := size_swp _ _ _
  obtain ⟨dk, hdk⟩ : ∃ d1, d1 = swp d a pivot := ⟨_, rfl⟩
  rw [← hdk] at HWs hsk
  have HDK := Lib.hid hdk
  clear hdk
  have eb : (b : Int) - 1 = ((b - 1 : Nat) : Int) := by omega
  have EB := Lib.hid eb
  clear eb
  all_goals
    go_upto_block 0 with (fail)
    refine name_world _ (fun W3 HW3 => ?_)
    have HW4 : Hid (W3 = putRow (Value.int .u64) (Sort.ahead w (0 + 1)) blk off dk) := Lib.hid (by rw [← HW3.out]; exact HWs.out)
    clear HW3 HWs
    rw [EB.out]
    go_upto_block 0 with (fail)
    go_cut [10] (fun v wc => ∃ (i2 m2 : Nat), v = .int .i64 i2 ∧ Hid (scanUp (fun x => ltInt x dk[a]!) dk (b - 1) (a + 1) = i2) ∧ (a + 1) ≤ i2 ∧ i2 ≤ (b - 1) + 1 ∧ Hid (wc = putRow (Value.int .u64) (Sort.ahead w m2) blk off dk))
    case first =>
      go_wp2
      go_loopw [10] (fun v wr2 => ∃ (t m2 : Nat), v = .int .i64 t ∧ (a + 1) ≤ t ∧ t ≤ (b - 1) + 1 ∧ wr2 = putRow (Value.int .u64) (Sort.ahead w m2) blk off dk ∧ scanUp (fun x => ltInt x dk[a]!) dk (b - 1) t = scanUp (fun x => ltInt x dk[a]!) dk (b - 1) (a + 1)) (fun v _ => (b - 1) + 1 - (intOf v).toNat)
      case atStart => exact ⟨(a + 1), _, rfl, Nat.le_refl _, by omega, HW4.out, rfl⟩
      case round =>
        obtain ⟨t, m2, rfl, ht1, ht2, hw2, hI⟩ := hrel
        obtain ⟨G, hG, hcw, hfw⟩ := famU hH hsk hw2
        have HI := Lib.hid hI; have HG := Lib.hid hG; have HW2 := Lib.hid hw2
        clear hI hG hw2
        by_cases c : t ≤ (b - 1)
        · go_wp2
          go_quiet (first | (go_at_call 108; exact Calls.quiet_of_same (less_u _ _ _)) | (go_at_call 108; exact quiet_add_same (less_u _ _ _)))
          go_wp2
          · have hl : ltInt (G t) (G a) = true := by assumption
            go_roundw
            case rel => exact ⟨t + 1, _, by go_num, by omega, by omega, by rw [HW2.out]; exact putRow_drewN _ _ _ _ _ _ _, by rw [← HI.out, scanUp_go (fun x => ltInt x dk[a]!) dk (b - 1) t c (by show (ltInt dk[t]! dk[a]!) = true; rw [← HG.out, ← HG.out]; simpa using hl)]⟩
            case measure => simp [intOf]; omega
          · have hl : ltInt (G t) (G a) = false := by assumption
            go_meet
            case rel => exact ⟨t, _, rfl, Lib.hid (by rw [← HI.out, scanUp_end (fun x => ltInt x dk[a]!) dk (b - 1) t (.inr (by show (ltInt dk[t]! dk[a]!) = false; rw [← HG.out, ← HG.out]; simpa using hl))]), ht1, ht2, Lib.hid (by rw [HW2.out]; exact putRow_drewN _ _ _ _ _ _ _)⟩
        · go_wp2
          go_quiet (first | (go_at_call 108; exact Calls.quiet_of_same (less_u _ _ _)) | (go_at_call 108; exact quiet_add_same (less_u _ _ _)))
          go_wp2
          go_meet
          case rel => exact ⟨t, _, rfl, Lib.hid (by rw [← HI.out, scanUp_end (fun x => ltInt x dk[a]!) dk (b - 1) t (.inl c)]), ht1, ht2, Lib.hid (by rw [HW2.out]; exact putRow_drewN _ _ _ _ _ _ _)⟩
    case rest =>
      obtain ⟨i2, m3, rfl, HI2, hi2, hi2j, HW5⟩ := hcut
      go_upto_block 2 with (fail)
      go_cut [11] (fun v wc => ∃ (j2 m2 : Nat), v = .int .i64 j2 ∧ Hid (scanDown (fun x => !ltInt x dk[a]!) dk i2 (b - 1) = j2) ∧ j2 ≤ (b - 1) ∧ i2 ≤ j2 + 1 ∧ Hid (wc = putRow (Value.int .u64) (Sort.ahead w m2) blk off dk))
      case first =>
        go_wp2
        go_loopw [11] (fun v wr2 => ∃ (t m2 : Nat), v = .int .i64 t ∧ t ≤ (b - 1) ∧ i2 ≤ t + 1 ∧ wr2 = putRow (Value.int .u64) (Sort.ahead w m2) blk off dk ∧ scanDown (fun x => !ltInt x dk[a]!) dk i2 t = scanDown (fun x => !ltInt x dk[a]!) dk i2 (b - 1)) (fun v _ => (intOf v).toNat)
        case atStart => exact ⟨(b - 1), _, rfl, Nat.le_refl _, by omega, HW5.out, rfl⟩
        case round =>
          obtain ⟨t, m2, rfl, ht1, ht2, hw2, hI⟩ := hrel
          obtain ⟨G, hG, hcw, hfw⟩ := famU hH hsk hw2
          have HI := Lib.hid hI; have HG := Lib.hid hG; have HW2 := Lib.hid hw2
          clear hI hG hw2
          by_cases c : i2 ≤ t
          · go_wp2
            go_quiet (first | (go_at_call 108; exact Calls.quiet_of_same (less_u _ _ _)) | (go_at_call 108; exact quiet_add_same (less_u _ _ _)))
            go_wp2
            · have hl : (!ltInt (G t) (G a)) = true := by assumption
              go_roundw
              case rel => exact ⟨t - 1, _, by congr 1; omega, by omega, by omega, by rw [HW2.out]; exact putRow_drewN _ _ _ _ _ _ _, by rw [← HI.out, scanDown_go (fun x => !ltInt x dk[a]!) dk i2 t c (by omega) (by show ((!ltInt dk[t]! dk[a]!)) = true; rw [← HG.out, ← HG.out]; simpa using hl)]⟩
              case measure => simp [intOf]; omega
            · have hl : (!ltInt (G t) (G a)) = false := by assumption
              go_meet
              case rel => exact ⟨t, _, rfl, Lib.hid (by rw [← HI.out, scanDown_end (fun x => !ltInt x dk[a]!) dk i2 t (.inr (by show ((!ltInt dk[t]! dk[a]!)) = false; rw [← HG.out, ← HG.out]; simpa using hl))]), ht1, ht2, Lib.hid (by rw [HW2.out]; exact putRow_drewN _ _ _ _ _ _ _)⟩
          · go_wp2
            go_quiet (first | (go_at_call 108; exact Calls.quiet_of_same (less_u _ _ _)) | (go_at_call 108; exact quiet_add_same (less_u _ _ _)))
            go_wp2
            go_meet
            case rel => exact ⟨t, _, rfl, Lib.hid (by rw [← HI.out, scanDown_end (fun x => !ltInt x dk[a]!) dk i2 t (.inl c)]), ht1, ht2, Lib.hid (by rw [HW2.out]; exact putRow_drewN _ _ _ _ _ _ _)⟩
      case rest =>
        obtain ⟨j2, m4, rfl, HJ2, hj2, hij2, HW6⟩ := hcut
        obtain ⟨G, hG, hcw, hfw⟩ := famU hH hsk HW6.out
        have HG := Lib.hid hG
        clear hG
        by_cases c : j2 < i2
        · have PE := part_first_break ltInt d a b pivot rfl rfl HDK.out HI2.out.symm HJ2.out.symm c
          have HPE := Lib.hid PE
          clear PE
          have hc1 := hcw j2 (by omega)
          have hc2 := hcw a (by omega)
          obtain ⟨v', hy'⟩ := cell?_setCell_some (w := wc) (p := ⟨blk, off + j2, none⟩) (x := .int .u64 (G a)) (q := ⟨blk, off + a, none⟩) (v := .int .u64 (G a)) hc2
          go_wp2
          go_region
          all_goals
            go_wp2
            refine bodyPost_ret (v := .tuple #[.int .i64 j2, .bool true]) (by simp [results, Try.results110, go_sem]) rfl ⟨by rw [HPE.out], _, by rw [HPE.out]; exact swapU (q := 1) HW6.out (by omega) (by omega) (HG.out _) (HG.out _)⟩
        · have PE := part_first_go ltInt d a b pivot rfl rfl HDK.out HI2.out.symm HJ2.out.symm c
          have hlt := part_scans_lt ltInt a (a + 1) (b - 1) dk (by omega) HI2.out.symm HJ2.out.symm (by omega)
          have hs2 : (swp dk i2 j2).size = d.size := by rw [size_swp]; exact hsk
          have SW : ((wc.setCell ⟨blk, off + i2, none⟩ (.int .u64 (G j2))).setCell ⟨blk, off + j2, none⟩ (.int .u64 (G i2))).drew = putRow (Value.int .u64) (Sort.ahead w (m4 + 1)) blk off (swp dk i2 j2) := swapU (q := 1) HW6.out (by omega) (by omega) (HG.out _) (HG.out _)
          obtain ⟨d1, hd1⟩ : ∃ d1, swp dk i2 j2 = d1 := ⟨_, rfl⟩
          rw [hd1] at PE hs2 SW
          have HPE := Lib.hid PE; have HSW := Lib.hid SW
          clear PE SW hd1
          go_wp2
          go_region
          all_goals
            go_wp2
            refine name_world _ (fun W7 HW7 => ?_)
            have HW8 : Hid (W7 = putRow (Value.int .u64) (Sort.ahead w (m4 + 1)) blk off d1) := Lib.hid (by rw [← HW7.out]; exact HSW.out)
            clear HW7 HSW hcw hfw
            go_loopw [10, 11] (fun vi vj wr => ∃ (i j n : Nat) (dj : Array Int), vi = .int .i64 i ∧ vj = .int .i64 j ∧ a < i ∧ i ≤ j + 1 ∧ j < b ∧ dj.size = d.size ∧ wr = putRow (Value.int .u64) (Sort.ahead w n) blk off dj ∧ partLoop ltInt a i j dj = partLoop ltInt a (i2 + 1) (j2 - 1) d1) (fun vi _ _ => b + 1 - (intOf vi).toNat)
            case atStart => exact ⟨i2 + 1, j2 - 1, m4 + 1, d1, by go_num, by first | rfl | (congr 1; omega), by omega, by omega, by omega, hs2, HW8.out, rfl⟩
            case round =>
              obtain ⟨i, j, n, dj, rfl, rfl, hai, hij, hjb, hsj, hwr, hO⟩ := hrel
              have HO := Lib.hid hO; have HW := Lib.hid hwr
              clear hO hwr
              go_upto_block 6 with (fail)
              go_cut [10] (fun v wc => ∃ (i2 m2 : Nat), v = .int .i64 i2 ∧ Hid (scanUp (fun x => ltInt x dj[a]!) dj j i = i2) ∧ i ≤ i2 ∧ i2 ≤ j + 1 ∧ Hid (wc = putRow (Value.int .u64) (Sort.ahead w m2) blk off dj))
              case first =>
                go_wp2
                go_loopw [10] (fun v wr2 => ∃ (t m2 : Nat), v = .int .i64 t ∧ i ≤ t ∧ t ≤ j + 1 ∧ wr2 = putRow (Value.int .u64) (Sort.ahead w m2) blk off dj ∧ scanUp (fun x => ltInt x dj[a]!) dj j t = scanUp (fun x => ltInt x dj[a]!) dj j i) (fun v _ => j + 1 - (intOf v).toNat)
                case atStart => exact ⟨i, _, rfl, Nat.le_refl _, by omega, HW.out, rfl⟩
                case round =>
                  obtain ⟨t, m2, rfl, ht1, ht2, hw2, hI⟩ := hrel
                  obtain ⟨G, hG, hcw, hfw⟩ := famU hH hsj hw2
                  have HI := Lib.hid hI; have HG := Lib.hid hG; have HW2 := Lib.hid hw2
                  clear hI hG hw2
                  by_cases c : t ≤ j
                  · go_wp2
                    go_quiet (first | (go_at_call 108; exact Calls.quiet_of_same (less_u _ _ _)) | (go_at_call 108; exact quiet_add_same (less_u _ _ _)))
                    go_wp2
                    · have hl : ltInt (G t) (G a) = true := by assumption
                      go_roundw
                      case rel => exact ⟨t + 1, _, by go_num, by omega, by omega, by rw [HW2.out]; exact putRow_drewN _ _ _ _ _ _ _, by rw [← HI.out, scanUp_go (fun x => ltInt x dj[a]!) dj j t c (by show (ltInt dj[t]! dj[a]!) = true; rw [← HG.out, ← HG.out]; simpa using hl)]⟩
                      case measure => simp [intOf]; omega
                    · have hl : ltInt (G t) (G a) = false := by assumption
                      go_meet
                      case rel => exact ⟨t, _, rfl, Lib.hid (by rw [← HI.out, scanUp_end (fun x => ltInt x dj[a]!) dj j t (.inr (by show (ltInt dj[t]! dj[a]!) = false; rw [← HG.out, ← HG.out]; simpa using hl))]), ht1, ht2, Lib.hid (by rw [HW2.out]; exact putRow_drewN _ _ _ _ _ _ _)⟩
                  · go_wp2
                    go_quiet (first | (go_at_call 108; exact Calls.quiet_of_same (less_u _ _ _)) | (go_at_call 108; exact quiet_add_same (less_u _ _ _)))
                    go_wp2
                    go_meet
                    case rel => exact ⟨t, _, rfl, Lib.hid (by rw [← HI.out, scanUp_end (fun x => ltInt x dj[a]!) dj j t (.inl c)]), ht1, ht2, Lib.hid (by rw [HW2.out]; exact putRow_drewN _ _ _ _ _ _ _)⟩
              case rest =>
                obtain ⟨i3, m5, rfl, HI3, hi3, hi3j, HW9⟩ := hcut
                go_upto_block 8 with (fail)
                go_cut [11] (fun v wc => ∃ (j2 m2 : Nat), v = .int .i64 j2 ∧ Hid (scanDown (fun x => !ltInt x dj[a]!) dj i3 j = j2) ∧ j2 ≤ j ∧ i3 ≤ j2 + 1 ∧ Hid (wc = putRow (Value.int .u64) (Sort.ahead w m2) blk off dj))
                case first =>
                  go_wp2
                  go_loopw [11] (fun v wr2 => ∃ (t m2 : Nat), v = .int .i64 t ∧ t ≤ j ∧ i3 ≤ t + 1 ∧ wr2 = putRow (Value.int .u64) (Sort.ahead w m2) blk off dj ∧ scanDown (fun x => !ltInt x dj[a]!) dj i3 t = scanDown (fun x => !ltInt x dj[a]!) dj i3 j) (fun v _ => (intOf v).toNat)
                  case atStart => exact ⟨j, _, rfl, Nat.le_refl _, by omega, HW9.out, rfl⟩
                  case round =>
                    obtain ⟨t, m2, rfl, ht1, ht2, hw2, hI⟩ := hrel
                    obtain ⟨G, hG, hcw, hfw⟩ := famU hH hsj hw2
                    have HI := Lib.hid hI; have HG := Lib.hid hG; have HW2 := Lib.hid hw2
                    clear hI hG hw2
                    by_cases c : i3 ≤ t
                    · go_wp2
                      go_quiet (first | (go_at_call 108; exact Calls.quiet_of_same (less_u _ _ _)) | (go_at_call 108; exact quiet_add_same (less_u _ _ _)))
                      go_wp2
                      · have hl : (!ltInt (G t) (G a)) = true := by assumption
                        go_roundw
                        case rel => exact ⟨t - 1, _, by congr 1; omega, by omega, by omega, by rw [HW2.out]; exact putRow_drewN _ _ _ _ _ _ _, by rw [← HI.out, scanDown_go (fun x => !ltInt x dj[a]!) dj i3 t c (by omega) (by show ((!ltInt dj[t]! dj[a]!)) = true; rw [← HG.out, ← HG.out]; simpa using hl)]⟩
                        case measure => simp [intOf]; omega
                      · have hl : (!ltInt (G t) (G a)) = false := by assumption
                        go_meet
                        case rel => exact ⟨t, _, rfl, Lib.hid (by rw [← HI.out, scanDown_end (fun x => !ltInt x dj[a]!) dj i3 t (.inr (by show ((!ltInt dj[t]! dj[a]!)) = false; rw [← HG.out, ← HG.out]; simpa using hl))]), ht1, ht2, Lib.hid (by rw [HW2.out]; exact putRow_drewN _ _ _ _ _ _ _)⟩
                    · go_wp2
                      go_quiet (first | (go_at_call 108; exact Calls.quiet_of_same (less_u _ _ _)) | (go_at_call 108; exact quiet_add_same (less_u _ _ _)))
                      go_wp2
                      go_meet
                      case rel => exact ⟨t, _, rfl, Lib.hid (by rw [← HI.out, scanDown_end (fun x => !ltInt x dj[a]!) dj i3 t (.inl c)]), ht1, ht2, Lib.hid (by rw [HW2.out]; exact putRow_drewN _ _ _ _ _ _ _)⟩
                case rest =>
                  obtain ⟨j3, m6, rfl, HJ3, hj3, hij3, HW10⟩ := hcut
                  obtain ⟨G, hG, hcw, hfw⟩ := famU hH hsj HW10.out
                  have HG := Lib.hid hG
                  clear hG
                  by_cases c2 : j3 < i3
                  · have PL := part_break ltInt a i j dj HI3.out.symm HJ3.out.symm c2
                    rw [HO.out] at PL
                    have PE := HPE.out
                    rw [PL] at PE
                    have HPE2 := Lib.hid PE
                    clear PL PE
                    have hc1 := hcw j3 (by omega)
                    have hc2 := hcw a (by omega)
                    obtain ⟨v', hy'⟩ := cell?_setCell_some (w := wc) (p := ⟨blk, off + j3, none⟩) (x := .int .u64 (G a)) (q := ⟨blk, off + a, none⟩) (v := .int .u64 (G a)) hc2
                    go_wp2
                    go_region
                    all_goals
                      go_wp2
                      refine bodyPost_ret (v := .tuple #[.int .i64 j3, .bool false]) (by simp [results, Try.results110, go_sem]) rfl ⟨by rw [HPE2.out], _, by rw [HPE2.out]; exact swapU (q := 1) HW10.out (by omega) (by omega) (HG.out _) (HG.out _)⟩
                  · have PL := part_go ltInt a i j dj HI3.out.symm HJ3.out.symm c2
                    have hlt3 := part_scans_lt ltInt a i j dj (by omega) HI3.out.symm HJ3.out.symm (by omega)
                    rw [HO.out] at PL
                    have HPL := Lib.hid PL
                    clear PL
                    go_wp2
                    go_region
                    all_goals go_wp2
                    go_roundw
                    case rel => exact ⟨i3 + 1, j3 - 1, _, swp dj i3 j3, by go_num, by congr 1; omega, by omega, by omega, by omega, by rw [size_swp]; exact hsj, swapU (q := 1) HW10.out (by omega) (by omega) (HG.out _) (HG.out _), HPL.out.symm⟩
                    case measure => simp [intOf]; omega
end Go.Proofs.Ytofgcacahfdjdaa
namespace Go.Proofs.Ytofgcacahfdjdaa
set_option linter.unusedVariables false
set_option linter.unusedSimpArgs false
open Go.RowKit Go.Sort Go.Proofs Go.Proofs.YtofgcacahfdjdaaW.PrintWords
theorem holds_heap {α : Type} [Inhabited α] {enc : α → Value} {w w' : World} {blk off : Nat} {d : Array α} (h : Holds enc w blk off d) (he : w'.heap[blk]? = w.heap[blk]?) : Holds enc w' blk off d := fun j hj => by
  have := h j hj
  unfold World.cell? World.frozen? at *
  simp only [he]
  exact this
/-- The row, and the counter of exchanges in a block of its own. -/
def QS (w : World) (blk off : Nat) (d : Array Int) (sb : Nat) : Prop := Holds (Value.int .u64) w blk off d ∧ (∃ s : Int, w.heap[sb]? = some (.cells #[.int .i64 s] 3 (0, 0))) ∧ sb ≠ blk
/-- Nothing but a block has changed. -/
def KX (w w' : World) (sb : Nat) : Prop := w'.heap.size = w.heap.size ∧ (∀ i, i ≠ sb → w'.heap[i]? = w.heap[i]?) ∧ w'.os = w.os ∧ w'.tape = w.tape ∧ w'.output = w.output
theorem KX.refl (w : World) (sb : Nat) : KX w w sb := ⟨rfl, fun _ _ => rfl, rfl, rfl, rfl⟩
theorem KX.trans {a b c : World} {sb : Nat} (h : KX a b sb) (k : KX b c sb) : KX a c sb := ⟨k.1.trans h.1, fun i hi => (k.2.1 i hi).trans (h.2.1 i hi), k.2.2.1.trans h.2.2.1, k.2.2.2.1.trans h.2.2.2.1, k.2.2.2.2.trans h.2.2.2.2⟩
theorem QS.step {w w' : World} {blk off : Nat} {d : Array Int} {sb : Nat} (h : QS w blk off d sb) (t : Int) (n : Nat) : QS ((w.drewN n).setCell ⟨sb, 0, none⟩ (.int .i64 t)) blk off d sb ∧ KX w ((w.drewN n).setCell ⟨sb, 0, none⟩ (.int .i64 t)) sb := by
  obtain ⟨h1, ⟨s, h2⟩, h3⟩ := h
  refine ⟨⟨holds_heap h1 (Below.heap_setCell (w.drewN n) ⟨sb, 0, none⟩ _ blk (Ne.symm h3)), ⟨t, ?_⟩, h3⟩, ?_⟩
  · exact blk_set (blk_drewN h2 n) 0 (.int .i64 t)
  · refine ⟨by simp, fun i hi => Below.heap_setCell (w.drewN n) ⟨sb, 0, none⟩ _ i hi, ?_, ?_, ?_⟩ <;> rfl
set_option maxHeartbeats 1000000 in
theorem order2_u (blk off len cap a b sb : Nat) (d : Array Int) (hlen : d.size = len) (w : World) (h : QS w blk off d sb) (ha : a < d.size) (hb : b < d.size) (hsz : d.size < 4611686018427387904) :
    Calls Try.prog 124 #[.slice (some ⟨blk, off, none⟩) len cap, .int .i64 a, .int .i64 b, .pointer (some ⟨sb, 0, none⟩)] w fun e w' =>
      ∃ x y : Nat, e = .returned (.tuple #[.int .i64 x, .int .i64 y]) ∧ ((x = a ∧ y = b) ∨ (x = b ∧ y = a)) ∧ QS w' blk off d sb ∧ KX w w' sb := by
  subst hlen
  obtain ⟨h1, ⟨s, h2⟩, h3⟩ := id h
  obtain ⟨G, hG, hcw, hfw⟩ := famU h1 rfl (selfU h1)
  have hca := hcw a ha; have hcb := hcw b hb
  have hcs : w.cell? ⟨sb, 0, none⟩ = some (.int .i64 s) := blk_cell h2 0
  have hfs : w.frozen? ⟨sb, 0, none⟩ = false := blk_frozen h2 0
  have H := Lib.hid h
  clear hG hcw hfw h1 h2 h3 h
  go_enter Try.func124, Try.ntmps124
  go_wp2
  go_quiet (first | (go_at_call 108; exact Calls.quiet_of_same (less_u _ _ _)))
  go_wp2
  · refine bodyPost_ret (v := .tuple #[.int .i64 b, .int .i64 a]) (by simp [results, Try.results124, go_sem]) rfl ⟨b, a, rfl, .inr ⟨rfl, rfl⟩, ?_⟩
    exact (H.out.step (w' := w) _ _)
  · refine bodyPost_ret (v := .tuple #[.int .i64 a, .int .i64 b]) (by simp [results, Try.results124, go_sem]) rfl ⟨a, b, rfl, .inl ⟨rfl, rfl⟩, H.out, ?_⟩
    exact ⟨rfl, fun _ _ => rfl, rfl, rfl, rfl⟩
set_option maxHeartbeats 1000000 in
theorem median_u (blk off len cap a b c sb : Nat) (d : Array Int) (hlen : d.size = len) (w : World) (h : QS w blk off d sb) (ha : a < d.size) (hb : b < d.size) (hc : c < d.size) (hsz : d.size < 4611686018427387904) :
    Calls Try.prog 121 #[.slice (some ⟨blk, off, none⟩) len cap, .int .i64 a, .int .i64 b, .int .i64 c, .pointer (some ⟨sb, 0, none⟩)] w fun e w' =>
      ∃ x : Nat, e = .returned (.int .i64 x) ∧ (x = a ∨ x = b ∨ x = c) ∧ QS w' blk off d sb ∧ KX w w' sb := by
  subst hlen
  have C := fun w h x y hx hy => order2_u blk off d.size cap x y sb d rfl w h hx hy hsz
  go_enter Try.func121, Try.ntmps121
  go_wp2_with (go_at_call 124; refine (C _ h _ _ ha hb).mono ?_; rintro e w1 ⟨x1, y1, rfl, h1, q1, k1⟩; clear h)
  have hx1 : x1 < d.size := by omega
  have hy1 : y1 < d.size := by omega
  go_wp2_with (go_at_call 124; refine (C _ q1 _ _ hy1 hc).mono ?_; rintro e w2 ⟨x2, y2, rfl, h2, q2, k2⟩; clear q1)
  have hx2 : x2 < d.size := by omega
  go_wp2_with (go_at_call 124; refine (C _ q2 _ _ hx1 hx2).mono ?_; rintro e w3 ⟨x3, y3, rfl, h3, q3, k3⟩; clear q2)
  go_ret
  exact ⟨y3, rfl, by omega, q3, (k1.trans k2).trans k3⟩
set_option maxHeartbeats 1000000 in
theorem medianAdjacent_u (blk off len cap a sb : Nat) (d : Array Int) (hlen : d.size = len) (w : World) (h : QS w blk off d sb) (h0 : 1 ≤ a) (ha : a + 1 < d.size) (hsz : d.size < 4611686018427387904) :
    Calls Try.prog 120 #[.slice (some ⟨blk, off, none⟩) len cap, .int .i64 a, .pointer (some ⟨sb, 0, none⟩)] w fun e w' =>
      ∃ x : Nat, e = .returned (.int .i64 x) ∧ (x = a - 1 ∨ x = a ∨ x = a + 1) ∧ QS w' blk off d sb ∧ KX w w' sb := by
  subst hlen
  have C := median_u blk off d.size cap (a - 1) a (a + 1) sb d rfl w h (by omega) (by omega) ha hsz
  have e1 : ((a - 1 : Nat) : Int) = (a : Int) - 1 := by omega
  have e2 : ((a + 1 : Nat) : Int) = (a : Int) + 1 := by omega
  rw [e1, e2] at C
  clear e1 e2
  go_enter Try.func120, Try.ntmps120
  go_wp2_with (go_at_call 121; refine C.mono ?_; rintro e w1 ⟨x1, rfl, h1, q1, k1⟩)
  go_ret
  exact ⟨x1, rfl, h1, q1, k1⟩
end Go.Proofs.Ytofgcacahfdjdaa
namespace Go.Proofs.Ytofgcacahfdjdaa
set_option linter.unusedVariables false
set_option linter.unusedSimpArgs false
open Go.RowKit Go.Sort Go.Proofs Go.Proofs.YtofgcacahfdjdaaW.PrintWords
theorem KX.below {w w1 : World} {o : Obj} (h : KX (w.alloc o) w1 w.heap.size) : Below w.heap.size w w1 :=
  ⟨h.2.2.1, h.2.2.2.1, h.2.2.2.2, by rw [h.1]; simp, fun k hk => by rw [h.2.1 k (by omega)]; exact Below.heap_alloc w o k hk⟩
theorem QS.start {w : World} {blk off : Nat} {d : Array Int} (h : Holds (Value.int .u64) w blk off d) (hb : blk < w.heap.size) : QS (w.alloc (.cells #[.int .i64 0] 3)) blk off d w.heap.size :=
  ⟨holds_heap h (Below.heap_alloc w _ blk hb), ⟨0, blk_new w _⟩, by omega⟩
set_option maxHeartbeats 2000000 in
set_option maxRecDepth 100000 in
theorem choosePivot_u (blk off len cap a b : Nat) (d : Array Int) (hlen : d.size = len) (w : World) (h : Holds (Value.int .u64) w blk off d) (hblk : blk < w.heap.size) (hab : a < b) (hb : b ≤ d.size) (hsz : d.size < 4611686018427387904) :
    Calls Try.prog 105 #[.slice (some ⟨blk, off, none⟩) len cap, .int .i64 a, .int .i64 b] w fun e w' =>
      ∃ p hint : Nat, e = .returned (.tuple #[.int .i64 p, .int .i64 hint]) ∧ a ≤ p ∧ p < b ∧ hint ≤ 2 ∧ Below w.heap.size w w' := by
  subst hlen
  obtain ⟨l, hl⟩ : ∃ l : Nat, (b : Int) - (a : Int) = l := ⟨b - a, by omega⟩
  obtain ⟨i, hi⟩ : ∃ i : Nat, a + l / 4 * 1 = i := ⟨_, rfl⟩
  obtain ⟨j, hj⟩ : ∃ i : Nat, a + l / 4 * 2 = i := ⟨_, rfl⟩
  obtain ⟨k, hk⟩ : ∃ i : Nat, a + l / 4 * 3 = i := ⟨_, rfl⟩
  have e1 : (a : Int) + (l : Int) / 4 = (i : Int) := by omega
  have e2 : (a : Int) + (l : Int) / 4 * 2 = (j : Int) := by omega
  have e3 : (a : Int) + (l : Int) / 4 * 3 = (k : Int) := by omega
  have q0 := QS.start h hblk
  have k0 := KX.refl (w.alloc (.cells #[.int .i64 0] 3)) w.heap.size
  have HL := Lib.hid hl; have E1 := Lib.hid e1; have E2 := Lib.hid e2; have E3 := Lib.hid e3
  have jr : a ≤ j ∧ j < b := by omega
  have HI := Lib.hid hi; have HJ := Lib.hid hj; have HK := Lib.hid hk
  have bl : b = a + l := by omega
  have BL := Lib.hid bl
  clear hl e1 e2 e3 h hi hj hk bl
  go_enter Try.func105, Try.ntmps105
  go_upto_if 32 with (fail)
  rw [HL.out, E1.out, E2.out, E3.out]
  go_cut [11] (fun v wc => ∃ p : Nat, v = .int .i64 p ∧ a ≤ p ∧ p < b ∧ QS wc blk off d w.heap.size ∧ KX (w.alloc (.cells #[.int .i64 0] 3)) wc w.heap.size)
  case first =>
    by_cases h8 : 8 ≤ l
    · have hi := HI.out; have hj := HJ.out; have hk := HK.out; have bl := BL.out
      have r1 : 1 ≤ i ∧ i + 1 < b := by omega
      have r2 : 1 ≤ j ∧ j + 1 < b := by omega
      by_cases h50 : 50 ≤ l
      · have r1' : a ≤ i - 1 ∧ 1 ≤ i ∧ i + 1 < b := by omega
        have r2' : a ≤ j - 1 ∧ 1 ≤ j ∧ j + 1 < b := by omega
        have r3' : a ≤ k - 1 ∧ 1 ≤ k ∧ k + 1 < b := by omega
        have C := fun w1 h x h1 h2 => medianAdjacent_u blk off d.size cap x w.heap.size d rfl w1 h h1 h2 hsz
        have M := fun w1 h x y z h1 h2 h3 => median_u blk off d.size cap x y z w.heap.size d rfl w1 h h1 h2 h3 hsz
        clear hi hj hk bl
        go_wp2_with (go_at_call 120; refine (C _ q0 _ r1'.2.1 (by omega)).mono ?_; rintro e w1 ⟨x1, rfl, h1, q1, k1⟩; clear q0)
        have y1 : a ≤ x1 ∧ x1 < b := by omega
        go_wp2_with (go_at_call 120; refine (C _ q1 _ r2'.2.1 (by omega)).mono ?_; rintro e w2 ⟨x2, rfl, h2, q2, k2⟩; clear q1)
        have y2 : a ≤ x2 ∧ x2 < b := by omega
        go_wp2_with (go_at_call 120; refine (C _ q2 _ r3'.2.1 (by omega)).mono ?_; rintro e w3 ⟨x3, rfl, h3, q3, k3⟩; clear q2)
        have y3 : a ≤ x3 ∧ x3 < b := by omega
        go_wp2_with (go_at_call 121; refine (M _ q3 _ _ _ (by omega) (by omega) (by omega)).mono ?_; rintro e w4 ⟨x4, rfl, h4, q4, k4⟩; clear q3)
        go_meet
        case rel => exact ⟨x4, rfl, by omega, by omega, q4, (((k0.trans k1).trans k2).trans k3).trans k4⟩
      · have M := median_u blk off d.size cap i j k w.heap.size d rfl _ q0 (by omega) (by omega) (by omega) hsz
        have r3 : a ≤ i ∧ i < b ∧ a ≤ j ∧ j < b ∧ a ≤ k ∧ k < b := by omega
        clear hi hj hk bl
        go_wp2_with (go_at_call 121; refine M.mono ?_; rintro e w4 ⟨x4, rfl, h4, q4, k4⟩)
        go_meet
        case rel => exact ⟨x4, rfl, by omega, by omega, q4, k0.trans k4⟩
    · go_wp2
      go_meet
      case rel => exact ⟨j, rfl, jr.1, jr.2, q0, k0⟩
  case rest =>
    obtain ⟨p, rfl, p1, p2, q1, k1⟩ := hcut
    obtain ⟨_, ⟨s, hs⟩, _⟩ := q1
    have hcs := blk_cell hs 0
    have hcs' : World.cell? wc ⟨w.heap.size, 0, none⟩ = some (.int .i64 s) := hcs
    have KB := Lib.hid k1.below
    clear hs hcs k0 k1 q0
    by_cases s0 : s = 0
    · subst s0
      go_wp2
      refine bodyPost_ret (v := .tuple #[.int .i64 p, .int .i64 (1 : Nat)]) (by simp [results, Try.results105, go_sem]) rfl ⟨p, 1, rfl, p1, p2, by omega, KB.out⟩
    · have t0 : (s == 0) = false := beq_eq_false_iff_ne.mpr s0
      by_cases s12 : s = 12
      · subst s12
        go_wp2
        refine bodyPost_ret (v := .tuple #[.int .i64 p, .int .i64 (2 : Nat)]) (by simp [results, Try.results105, go_sem]) rfl ⟨p, 2, rfl, p1, p2, by omega, KB.out⟩
      · have t12 : (s == 12) = false := beq_eq_false_iff_ne.mpr s12
        go_wp2
        refine bodyPost_ret (v := .tuple #[.int .i64 p, .int .i64 (0 : Nat)]) (by simp [results, Try.results105, go_sem]) rfl ⟨p, 0, rfl, p1, p2, by omega, KB.out⟩
end Go.Proofs.Ytofgcacahfdjdaa
namespace Go.Proofs.Ytofgcacahfdjdaa
set_option linter.unusedVariables false
set_option linter.unusedSimpArgs false
open Go.RowKit Go.Sort Go.Proofs Go.Proofs.YtofgcacahfdjdaaW.PrintWords
theorem npot_u (n : Nat) (hn : n < 4611686018427387904) (w : World) :
    Calls Try.prog 118 #[.int .i64 n] w fun e w' => e = .returned (.int .u64 ((1 <<< bitsLen n : Nat) : Int)) ∧ w' = w := by
  have hLen : ∀ w, Calls Try.prog 93 #[.int .u64 (n : Int)] w fun e w' => e = .returned (.int .i64 (bitsLen n : Nat)) ∧ w' = w := fun w => by
    have h := Try.bits_Len (n : Int) w (by omega) (by omega)
    rwa [Int.toNat_natCast, bitLen_eq _ (by omega)] at h
  have hk : bitsLen n ≤ 62 := (bitsLen_le_iff n 62).2 (by omega)
  have hp := wrap_two_pow (bitsLen n) hk
  have wr : IntKind.u64.wrap (n : Int) = n := by rw [IntKind.wrap_u64]; omega
  go_enter Try.func118, Try.ntmps118
  go_wp2_with (first | (go_at_call 93; refine (hLen _).mono ?_; rintro e w' ⟨rfl, rfl⟩))
  go_ret
  exact ⟨rfl, rfl⟩
theorem xor_u (a b : Nat) (ha : a < 18446744073709551616) (hb : b < 18446744073709551616) : ∃ c : Nat, c < 18446744073709551616 ∧ bits .xor .u64 (a : Int) (b : Int) = (c : Int) :=
  ⟨a ^^^ b, Nat.xor_lt_two_pow (n := 64) ha hb, bits_xor_u64_nat _ _ ha hb⟩
set_option maxHeartbeats 2000000 in
theorem next_u (rb X : Nat) (hX : X < 18446744073709551616) (w : World) (hc : w.cell? ⟨rb, 0, none⟩ = some (.int .u64 X)) (hf : w.frozen? ⟨rb, 0, none⟩ = false) :
    Calls Try.prog 119 #[.pointer (some ⟨rb, 0, none⟩)] w fun e w' => ∃ Y : Nat, Y < 18446744073709551616 ∧ e = .returned (.int .u64 Y) ∧ w' = (w.setCell ⟨rb, 0, none⟩ (.int .u64 Y)).drewN 3 := by
  obtain ⟨A, lA, e1⟩ : ∃ A : Nat, A < 18446744073709551616 ∧ bits .xor .u64 (X : Int) (IntKind.u64.wrap ((X : Int) * 8192)) = (A : Int) := by
    rw [IntKind.wrap_u64, show ((X : Int) * 8192 % 18446744073709551616) = ((X * 8192 % 18446744073709551616 : Nat) : Int) by omega]; exact xor_u _ _ hX (by omega)
  obtain ⟨B, lB, e2⟩ : ∃ B : Nat, B < 18446744073709551616 ∧ bits .xor .u64 (A : Int) ((A : Int) / 128) = (B : Int) := by
    rw [show ((A : Int) / 128) = ((A / 128 : Nat) : Int) by omega]; exact xor_u _ _ lA (by omega)
  obtain ⟨C, lC, e3⟩ : ∃ C : Nat, C < 18446744073709551616 ∧ bits .xor .u64 (B : Int) (IntKind.u64.wrap ((B : Int) * 131072)) = (C : Int) := by
    rw [IntKind.wrap_u64, show ((B : Int) * 131072 % 18446744073709551616) = ((B * 131072 % 18446744073709551616 : Nat) : Int) by omega]; exact xor_u _ _ lB (by omega)
  have hss : ∀ v v', (w.setCell ⟨rb, 0, none⟩ v).setCell ⟨rb, 0, none⟩ v' = w.setCell ⟨rb, 0, none⟩ v' := setCell_setCell w rb 0
  go_enter Try.func119, Try.ntmps119
  go_wp2
  go_region
  all_goals go_wp2
  all_goals go_region
  all_goals go_wp2
  all_goals go_region
  all_goals go_wp2
  go_ret
  exact ⟨C, lC, rfl, rfl⟩
theorem putRow_heap (w : World) (blk off k : Nat) (d : Array Int) (h : k ≠ blk) : (putRow (Value.int .u64) w blk off d).heap[k]? = w.heap[k]? := by
  unfold putRow mapBlock
  simp only [Array.getElem?_modify]
  rw [if_neg (Ne.symm h)]
/-- Of the blocks that stood, only the row has changed: it holds d. -/
def SU (w0 w : World) (blk off : Nat) (d : Array Int) : Prop := Go.RowKit.Below w0.heap.size (putRow (Value.int .u64) w0 blk off d) w
theorem SU.start {w : World} {blk off : Nat} {d : Array Int} (h : Holds (Value.int .u64) w blk off d) : SU w w blk off d := by
  unfold SU; rw [putRow_self _ _ _ _ _ h]; exact Go.RowKit.Below.refl _ _
theorem SU.holds {w0 w : World} {blk off : Nat} {d0 d : Array Int} (h : SU w0 w blk off d) (hH : Holds (Value.int .u64) w0 blk off d0) (hs : d.size = d0.size) (hb : blk < w0.heap.size) : Holds (Value.int .u64) w blk off d :=
  holds_heap (holds_putRow _ _ _ _ d0 d hH hs) (h.block blk hb)
theorem SU.size {w0 w : World} {blk off : Nat} {d : Array Int} (h : SU w0 w blk off d) : w0.heap.size ≤ w.heap.size := by
  have := Go.RowKit.Below.size h; simpa using this
theorem SU.put {w0 w : World} {blk off : Nat} {d : Array Int} (h : SU w0 w blk off d) (d' : Array Int) (hs : d'.size = d.size) (n : Nat) : SU w0 (putRow (Value.int .u64) (Sort.ahead w n) blk off d') blk off d' := by
  unfold SU
  rw [show putRow (Value.int .u64) w0 blk off d' = putRow (Value.int .u64) (putRow (Value.int .u64) w0 blk off d) blk off d' from (putRow_putRow _ _ _ _ _ _ hs).symm]
  refine ⟨h.os, h.tape, h.output, by simpa using h.size, fun k hk => ?_⟩
  by_cases e : k = blk
  · subst e
    have := h.block k hk
    unfold putRow mapBlock at *
    simp only [Array.getElem?_modify, if_true] at *
    rw [show (Sort.ahead w n).heap = w.heap from rfl, this]
  · rw [putRow_heap _ _ _ _ _ e, putRow_heap _ _ _ _ _ e]; exact h.block k hk
theorem SU.then {w0 w w' : World} {blk off : Nat} {d : Array Int} (h : SU w0 w blk off d) (k : Go.RowKit.Below w.heap.size w w') : SU w0 w' blk off d :=
  Go.RowKit.Below.trans h (k.mono h.size)
end Go.Proofs.Ytofgcacahfdjdaa
namespace Go.Proofs.Ytofgcacahfdjdaa
set_option linter.unusedVariables false
set_option linter.unusedSimpArgs false
open Go.RowKit Go.Sort Go.Proofs Go.Proofs.YtofgcacahfdjdaaW.PrintWords
/-- One round: the generator's cell is written, two places of the row change. -/
theorem SU.round {w wr : World} {blk off : Nat} {d : Array Int} (h : SU w wr blk off d) {d0 : Array Int} (hH : Holds (Value.int .u64) w blk off d0) (hs : d.size = d0.size) (hb : blk < w.heap.size) (Y : Nat) {j k : Nat} (hj : j < d.size) (hk : k < d.size) {x y : Int} (hx : x = d[k]!) (hy : y = d[j]!) (q : Nat) :
    SU w (((((wr.setCell ⟨w.heap.size, 0, none⟩ (.int .u64 Y)).drewN q).setCell ⟨blk, off + j, none⟩ (.int .u64 x)).setCell ⟨blk, off + k, none⟩ (.int .u64 y))) blk off (swp d j k) := by
  have h1 : SU w (wr.setCell ⟨w.heap.size, 0, none⟩ (.int .u64 Y)) blk off d := Go.RowKit.Below.setCell h (Nat.le_refl _) _
  have h2 := h1.holds hH hs hb
  have e := swapU (selfU h2) (q := q) hj hk hx hy
  rw [e]
  exact h1.put _ (size_swp d j k) _
/-- The generator's cell behind a round. -/
theorem gen_round {wr : World} {gb blk off : Nat} {X : Int} (hg : wr.heap[gb]? = some (.cells #[.int .u64 X] 149 (0, 0))) (hne : gb ≠ blk) (Y : Nat) (q j k : Nat) (x y : Value) :
    (((((wr.setCell ⟨gb, 0, none⟩ (.int .u64 Y)).drewN q).setCell ⟨blk, off + j, none⟩ x).setCell ⟨blk, off + k, none⟩ y)).heap[gb]? = some (.cells #[.int .u64 Y] 149 (0, 0)) := by
  rw [Below.heap_setCell _ ⟨blk, off + k, none⟩ _ gb hne, Below.heap_setCell _ ⟨blk, off + j, none⟩ _ gb hne]
  exact blk_set hg 0 (.int .u64 Y)
theorem and_u (Y M : Nat) (hY : Y < 18446744073709551616) (hM : 1 ≤ M) (hM2 : M < 18446744073709551616) : ∃ O : Nat, O ≤ M - 1 ∧ bits .and .u64 (Y : Int) ((M : Int) - 1) = (O : Int) :=
  ⟨Y &&& (M - 1), Nat.and_le_right, by rw [show ((M : Int) - 1) = ((M - 1 : Nat) : Int) by omega, bits_and_u64_nat _ _ hY (by omega)]⟩
set_option maxHeartbeats 4000000 in
set_option maxRecDepth 100000 in
theorem breakPatterns_u (blk off len cap a b : Nat) (d : Array Int) (hlen : d.size = len) (w : World) (hH : Holds (Value.int .u64) w blk off d) (hblk : blk < w.heap.size) (hab : a ≤ b) (hb : b ≤ d.size) (hsz : d.size < 4611686018427387904) :
    Calls Try.prog 104 #[.slice (some ⟨blk, off, none⟩) len cap, .int .i64 a, .int .i64 b] w fun e w' =>
      e = .returned (.tuple #[]) ∧ ∃ d', PermIn a b d d' ∧ SU w w' blk off d' := by
  subst hlen
  obtain ⟨L, rfl⟩ : ∃ L, b = a + L := ⟨b - a, by omega⟩
  obtain ⟨M, hM⟩ : ∃ M : Nat, M = 1 <<< bitsLen L := ⟨_, rfl⟩
  have hNP : ∀ w, Calls Try.prog 118 #[.int .i64 (L : Int)] w fun e w' => e = .returned (.int .u64 (M : Int)) ∧ w' = w := by rw [hM]; exact fun w => npot_u L (by omega) w
  have st := SU.start hH
  have eL : (a : Int) + (L : Int) - (a : Int) = (L : Int) := by omega
  have HH := Lib.hid hH
  by_cases h8 : 8 ≤ L
  · have hM1 : 1 ≤ M := by rw [hM, Nat.one_shiftLeft]; exact Nat.two_pow_pos _
    have hM2 : M ≤ 2 * L := by rw [hM, Nat.one_shiftLeft]; exact two_pow_bitsLen_le (by omega)
    have st2 : SU w (w.alloc (.cells #[.int .u64 (L : Int)] 149)) blk off d := Go.RowKit.Below.alloc st (by simp) _
    have ng : (w.alloc (.cells #[.int .u64 (L : Int)] 149)).heap[w.heap.size]? = some (.cells #[.int .u64 (L : Int)] 149 (0, 0)) := blk_new w _
    have ST := Lib.hid st2; have NG := Lib.hid ng; have EL := Lib.hid eL
    clear hM hH st st2 ng eL
    go_enter Try.func104, Try.ntmps104
    go_wp2_with (first | (go_at_call 118; rw [EL.out]; refine (hNP _).mono ?_; rintro e w' ⟨rfl, rfl⟩))
    go_loopw [9] (fun vi wr => ∃ (t X : Nat) (dk : Array Int), vi = .int .i64 ((a + L / 4 * 2 - 1 + t : Nat) : Int) ∧ t ≤ 3 ∧ X < 18446744073709551616 ∧ PermIn a (a + L) d dk ∧ SU w wr blk off dk ∧
        wr.heap[w.heap.size]? = some (.cells #[.int .u64 (X : Int)] 149 (0, 0))) (fun vi _ => a + L / 4 * 2 + 3 - (intOf vi).toNat)
    case atStart => exact ⟨0, L, d, by congr 1; omega, by omega, by omega, permIn_refl _ _ _, ST.out, NG.out⟩
    case round =>
      obtain ⟨t, X, dk, rfl, ht, hX, hp, hs, hg⟩ := hrel
      have hsk : dk.size = d.size := hp.1
      have hh := hs.holds HH.out hsk hblk
      obtain ⟨G, hG, hcw, hfw⟩ := famU hh rfl (selfU hh)
      have N := next_u w.heap.size X hX wr (blk_cell hg 0) (blk_frozen hg 0)
      have HS := Lib.hid hs; have HP := Lib.hid hp; have HG := Lib.hid hG; have GG := Lib.hid hg
      have hne : w.heap.size ≠ blk := by omega
      clear hs hp hh hG hg
      go_wp2_with (first | (go_at_call 119; refine N.mono ?_; rintro e w' ⟨Y, hY, rfl, rfl⟩; clear N; obtain ⟨O, lO, eO⟩ := and_u Y M hY hM1 (by omega)))
      · have hLO : L ≤ O := by omega
        by_cases hEq : a + L / 4 * 2 - 1 + t = a + (O - L)
        all_goals
          go_region
          all_goals go_wp2
          go_roundw
          case rel =>
            refine ⟨t + 1, Y, swp dk (a + L / 4 * 2 - 1 + t) (a + (O - L)), by first | rfl | (congr 1 <;> omega), by omega, hY, permIn_trans _ _ _ _ _ HP.out (swp_permIn _ _ _ _ _ (by omega) (by omega) (by omega) (by omega) (by omega)), ?_, ?_⟩
            · (try rw [hEq])
              simp only [HG.out]
              exact HS.out.round HH.out hsk hblk Y (by omega) (by omega) rfl rfl _
            · (try rw [hEq])
              exact gen_round GG.out hne Y _ _ _ _ _
          case measure => simp [intOf]; omega
      · have hLO : ¬ L ≤ O := by omega
        by_cases hEq : a + L / 4 * 2 - 1 + t = a + O
        all_goals
          go_region
          all_goals go_wp2
          go_roundw
          case rel =>
            refine ⟨t + 1, Y, swp dk (a + L / 4 * 2 - 1 + t) (a + O), by first | rfl | (congr 1 <;> omega), by omega, hY, permIn_trans _ _ _ _ _ HP.out (swp_permIn _ _ _ _ _ (by omega) (by omega) (by omega) (by omega) (by omega)), ?_, ?_⟩
            · (try rw [hEq])
              simp only [HG.out]
              exact HS.out.round HH.out hsk hblk Y (by omega) (by omega) rfl rfl _
            · (try rw [hEq])
              exact gen_round GG.out hne Y _ _ _ _ _
          case measure => simp [intOf]; omega
      · go_end0
        exact ⟨rfl, dk, HP.out, HS.out⟩
  · have ST := Lib.hid st; have EL := Lib.hid eL
    clear hM hH st eL hNP
    go_enter Try.func104, Try.ntmps104
    go_wp2
    go_end0
    exact ⟨rfl, d, permIn_refl _ _ _, ST.out⟩
end Go.Proofs.Ytofgcacahfdjdaa
namespace Go.Proofs.Ytofgcacahfdjdaa
set_option linter.unusedVariables false
set_option linter.unusedSimpArgs false
open Go.RowKit Go.Sort Go.Proofs Go.Proofs.YtofgcacahfdjdaaW.PrintWords
theorem SU.trans {w0 w1 w2 : World} {blk off : Nat} {d d' : Array Int} (h : SU w0 w1 blk off d) (k : SU w1 w2 blk off d') (hs : d'.size = d.size) : SU w0 w2 blk off d' :=
  (h.put d' hs 0).then (Go.RowKit.Below.mono k (by simp))
theorem SU.draws {w0 w1 : World} {blk off : Nat} {d : Array Int} (h : SU w0 w1 blk off d) (n : Nat) : SU w0 (w1.drewN n) blk off d := ⟨h.os, h.tape, h.output, by have := Go.RowKit.Below.size h; simpa using this, h.block⟩
set_option maxHeartbeats 6400000 in
set_option maxRecDepth 1000000 in
theorem pdqsort_u : ∀ (N blk off len cap a b limit : Nat) (d : Array Int) (_ : d.size = len) (w : World), b - a < N → Holds (Value.int .u64) w blk off d → blk < w.heap.size → a ≤ b → b ≤ d.size → d.size < 4611686018427387904 → limit < 4611686018427387904 → Below ltInt a b d →
    Calls Try.prog 92 #[.slice (some ⟨blk, off, none⟩) len cap, .int .i64 a, .int .i64 b, .int .i64 limit] w fun e w' => e = .returned (.tuple #[]) ∧ ∃ d', (PermIn a b d d' ∧ SortedIn ltInt a b d') ∧ SU w w' blk off d' := by
  intro N
  induction N with
  | zero => intro _ _ _ _ _ _ _ _ _ _ h; exact absurd h (Nat.not_lt_zero _)
  | succ N ih =>
    intro blk off len cap a b limit d hlen w hN hH hblk hab hb hsz hlimit hBel0
    have HH := Lib.hid hH
    have ST := Lib.hid (SU.start hH)
    have HB0 := Lib.hid hBel0
    have IH := Lib.hid ih
    clear hH hBel0 ih
    go_enter Try.func92, Try.ntmps92
    go_wp2
    go_loopg [1, 2, 3, 8, 9] (b - a) (fun k s1 s2 s3 s8 s9 wr => ∃ (a' b' lim : Nat) (wb wp : Bool) (dk : Array Int), s1 = .int .i64 a' ∧ s2 = .int .i64 b' ∧ s3 = .int .i64 lim ∧ s8 = .bool wb ∧ s9 = .bool wp ∧
      a' ≤ b' ∧ b' ≤ d.size ∧ b' - a' ≤ k ∧ k ≤ b - a ∧ lim ≤ limit ∧ dk.size = d.size ∧ Below ltInt a' b' dk ∧ SU w wr blk off dk ∧ ∀ R, PermIn a' b' dk R → SortedIn ltInt a' b' R → PermIn a b d R ∧ SortedIn ltInt a b R)
    case atStart => exact ⟨a, b, limit, true, true, d, rfl, rfl, rfl, rfl, rfl, hab, hb, Nat.le_refl _, Nat.le_refl _, Nat.le_refl _, rfl, HB0.out, ST.out, fun R h1 h2 => ⟨h1, h2⟩⟩
    case round =>
      obtain ⟨a', b', lim, wb, wp, dk, rfl, rfl, rfl, rfl, rfl, hab', hb', hk, hkN, hlim, hds, hBel, hS, hK⟩ := hrel
      have hbl : blk < wr.heap.size := Nat.lt_of_lt_of_le hblk hS.size
      have hh := hS.holds HH.out hds hblk
      have hb2 : b' ≤ dk.size := by omega
      have sz2 : dk.size < 4611686018427387904 := by omega
      have K := Lib.hid hK; have BE := Lib.hid hBel; have HS := Lib.hid hS
      clear hK hBel hS
      by_cases h12 : b' - a' ≤ 12
      · have h12z : (b' : Int) - (a' : Int) ≤ 12 := by omega
        have hc := insertionSort_u blk off len cap a' b' dk (by omega) wr hh hab' hb2 sz2
        obtain ⟨hp, hso⟩ := insertionSort_holds swo_ltInt dk a' b' hab' hb2
        have HP := Lib.hid hp; have HO := Lib.hid hso
        clear hp hso hh
        go_wp2_with (go_at_call 102; refine hc.mono ?_; rintro e w1 ⟨rfl, hw1⟩; clear hc)
        (try simp only [Exit.inBlock, Exit.then]); refine bodyPost_ret (results_none rfl _ _ _) rfl ?_
        obtain ⟨n1, rfl⟩ := hw1
        exact ⟨rfl, _, K.out _ HP.out HO.out, HS.out.put _ HP.out.1 _⟩
      · have h12z : ¬ ((b' : Int) - (a' : Int) ≤ 12) := by omega
        by_cases hl0 : lim = 0
        · subst hl0
          have hc := heapSort_u blk off len cap a' b' dk (by omega) wr hh hab' hb2 sz2
          obtain ⟨hp, hso⟩ := heapSort_holds swo_ltInt dk a' b' hab' hb2
          have HP := Lib.hid hp; have HO := Lib.hid hso
          clear hp hso hh
          go_wp2_with (go_at_call 103; refine hc.mono ?_; rintro e w1 ⟨rfl, hw1⟩; clear hc)
          (try simp only [Exit.inBlock, Exit.then]); refine bodyPost_ret (results_none rfl _ _ _) rfl ?_
          obtain ⟨n1, rfl⟩ := hw1
          exact ⟨rfl, _, K.out _ HP.out HO.out, HS.out.put _ HP.out.1 _⟩
        · have hl0z : ¬ ((lim : Int) = 0) := by omega
          have h12n : a' < b' := by omega
          -- 'if !wasBalanced { breakPatterns; limit-- }': the ways meet
          go_upto_if 35 with fail
          go_cut [3] (fun s3 wc => ∃ (l1 : Nat) (d1 : Array Int), s3 = .int .i64 l1 ∧ l1 ≤ lim ∧ PermIn a' b' dk d1 ∧ SU w wc blk off d1)
          case first =>
            cases wb
            · have hc := breakPatterns_u blk off len cap a' b' dk (by omega) wr hh hbl hab' hb2 sz2
              clear hh
              go_wp2_with (go_at_call 104; refine hc.mono ?_; rintro e w1 ⟨rfl, hw1⟩; clear hc)
              go_meet
              case rel =>
                obtain ⟨d1, hp1, hs1⟩ := hw1
                exact ⟨lim - 1, d1, by congr 1; omega, by omega, hp1, HS.out.trans hs1 hp1.1⟩
            · clear hh
              go_wp2_with fail
              go_meet
              case rel => exact ⟨lim, dk, rfl, Nat.le_refl _, permIn_refl _ _ _, HS.out⟩
          case rest =>
            obtain ⟨l1, d1, rfl, hl1, hp1, hs1⟩ := hcut
            have z1 : d1.size = d.size := hp1.1.trans hds
            have hh1 := hs1.holds HH.out z1 hblk
            have hbl1 : blk < wc.heap.size := Nat.lt_of_lt_of_le hblk hs1.size
            have hc := choosePivot_u blk off len cap a' b' d1 (by omega) wc hh1 hbl1 h12n (by omega) (by omega)
            have HP1 := Lib.hid hp1; have HS1 := Lib.hid hs1
            clear hp1 hs1 hh hh1 hbl
            go_upto_if 50 with (go_at_call 105; refine hc.mono ?_; rintro e w2 ⟨p, hint, rfl, hpa, hpb, hhi, hw2⟩; clear hc)
            have hs2 := HS1.out.then hw2
            have hh2 := hs2.holds HH.out z1 hblk
            have HS2 := Lib.hid hs2
            clear hw2 hs2
            -- 'if hint == decreasingHint { .. }': the ways meet
            go_cut [11, 12] (fun s11 s12 wc => ∃ (p2 h2 : Nat) (d2 : Array Int), s11 = .int .i64 p2 ∧ s12 = .int .i64 h2 ∧ a' ≤ p2 ∧ p2 < b' ∧ PermIn a' b' dk d2 ∧ SU w wc blk off d2)
            case first =>
              by_cases hh3 : hint = 2
              · subst hh3
                have hc := reverseRange_u blk off len cap a' b' d1 (by omega) w2 hh2 h12n (by omega) (by omega)
                have HR := Lib.hid (reverseRange_holds d1 a' b' hab' (by omega))
                clear hh2
                go_wp2_with (go_at_call 106; refine hc.mono ?_; rintro e w3 ⟨rfl, hw3⟩; clear hc)
                go_meet
                case rel =>
                  obtain ⟨n3, rfl⟩ := hw3
                  exact ⟨b' - 1 - (p - a'), 1, _, by congr 1; omega, rfl, by omega, by omega, permIn_trans _ _ _ _ _ HP1.out HR.out, HS2.out.put _ HR.out.1 _⟩
              · have hh3z : ¬ ((hint : Int) = 2) := by omega
                clear hh2
                go_wp2_with fail
                go_meet
                case rel => exact ⟨p, hint, d1, rfl, rfl, hpa, hpb, HP1.out, HS2.out⟩
            case rest =>
              obtain ⟨p2, h2, d2, rfl, rfl, hpa2, hpb2, hp2, hs2⟩ := hcut
              have z2 : d2.size = d.size := hp2.1.trans hds
              have hh4 := hs2.holds HH.out z2 hblk
              have HP2 := Lib.hid hp2; have HS3 := Lib.hid hs2
              clear hp2 hs2 hh2
              go_upto_region 15 with fail
              go_cut [12, 68] (fun s12 s68 wx => s12 = .int .i64 h2 ∧ (∃ c : Bool, s68 = .bool c) ∧ wx = wc)
              case first =>
                by_cases h21 : h2 = 1
                · subst h21
                  cases wb <;> cases wp <;> (go_wp2_with fail; go_meet; exact ⟨rfl, ⟨_, rfl⟩, rfl⟩)
                · have h21z : ¬ ((h2 : Int) = 1) := by omega
                  cases wb <;> cases wp <;> (go_wp2_with fail; go_meet; exact ⟨rfl, ⟨_, rfl⟩, rfl⟩)
              case rest =>
                obtain ⟨rfl, ⟨c, rfl⟩, rfl⟩ := hcut
                -- 'if .. { if partialInsertionSort(..) { return } }': the ways meet, or it returns
                go_upto_if 68 with fail
                go_cut [] (fun wx => ∃ d3 : Array Int, PermIn a' b' dk d3 ∧ SU w wx blk off d3)
                case first =>
                  cases c
                  · clear hh4
                    go_wp2_with fail
                    go_meet
                    case rel => exact ⟨d2, HP2.out, HS3.out⟩
                  · have hpp := partialInsertionSort_holds swo_ltInt d2 a' b' h12n (by omega) (BE.out.perm hb2 HP2.out)
                    have hc := partialIns_u blk off len cap a' b' d2 (by omega) wc hh4 h12n (by omega) (by omega)
                    obtain ⟨pd, pb, hx⟩ : ∃ pd pb, partialInsertionSort ltInt d2 a' b' = (pd, pb) := ⟨_, _, rfl⟩
                    rw [hx] at hc hpp
                    have PP := Lib.hid hpp
                    clear hx hpp hh4
                    go_wp2_with (go_at_call 107; refine hc.mono ?_; rintro e w4 ⟨rfl, hw4⟩; clear hc)
                    all_goals first
                      | (go_meet
                         obtain ⟨n4, rfl⟩ := hw4
                         exact ⟨pd, permIn_trans _ _ _ _ _ HP2.out PP.out.1, HS3.out.put _ PP.out.1.1 _⟩)
                      | ((try simp only [Exit.inBlock, Exit.then]); refine bodyPost_ret (results_none rfl _ _ _) rfl ?_
                         obtain ⟨n4, rfl⟩ := hw4
                         exact ⟨rfl, pd, K.out _ (permIn_trans _ _ _ _ _ HP2.out PP.out.1) (PP.out.2 (by assumption)), HS3.out.put _ PP.out.1.1 _⟩)
                case rest =>
                  obtain ⟨d3, hp3, hs3⟩ := hcut
                  have z3 : d3.size = d.size := hp3.1.trans hds
                  have hh5 := hs3.holds HH.out z3 hblk
                  obtain ⟨G, hG, hcw, hfw⟩ := famU hh5 rfl (selfU hh5)
                  rw [z3] at hcw hfw
                  have HP3 := Lib.hid hp3; have HS4 := Lib.hid hs3; have HH5 := Lib.hid hh5; have HG := Lib.hid hG
                  clear hp3 hs3 hh4 hh5 hG
                  -- 'a > 0 && !cmp.Less(data[a-1], data[pivot])'
                  go_upto_region 17 with fail
                  go_cut [87] (fun s87 wx => ∃ c : Bool, s87 = .bool c ∧ (c = true → 0 < a' ∧ ltInt d3[a' - 1]! d3[p2]! = false) ∧ SU w wx blk off d3)
                  case first =>
                    rcases Nat.eq_zero_or_pos a' with ha0 | ha0
                    · have ha0z : decide ((a' : Int) > 0) = false := decide_eq_false (by omega)
                      go_big_quiet (first | (go_at_call 108; refine Calls.quiet_of_same (less_u _ _ _)))
                      go_wp2_with fail
                      go_meet
                      case rel => exact ⟨_, rfl, fun h => (nomatch h), HS4.out.draws _⟩
                    · have ha0z : (a' : Int) > 0 := by omega
                      go_big_quiet (first | (go_at_call 108; refine Calls.quiet_of_same (less_u _ _ _)))
                      go_wp2_with fail
                      go_meet
                      case rel => exact ⟨_, rfl, fun h => ⟨ha0, by rw [← HG.out, ← HG.out]; simpa using h⟩, HS4.out.draws _⟩
                  case rest =>
                    obtain ⟨c, rfl, hcn, hs4⟩ := hcut
                    have hh6 := hs4.holds HH.out z3 hblk
                    have B3 := BE.out.perm hb2 HP3.out
                    have HS5 := Lib.hid hs4; have CN := Lib.hid hcn
                    clear hcw hfw hs4 hcn
                    cases c
                    · obtain ⟨mid, ap, d4, hx⟩ : ∃ mid ap d4, partition ltInt d3 a' b' p2 = (mid, ap, d4) := ⟨_, _, _, rfl⟩
                      obtain ⟨r1, r2, r3, r4, r5, r6, r7⟩ := round_part swo_ltInt (partition_holds _) hpa2 hpb2 (by omega) B3 hx
                      have hc := partition_u blk off len cap a' b' p2 d3 (by omega) wc hh6 hpa2 hpb2 (by omega) (by omega)
                      rw [hx] at hc
                      have R4 := Lib.hid r4; have R5 := Lib.hid r5; have R6 := Lib.hid r6; have R7 := Lib.hid r7; have R3 := Lib.hid r3; have B4 := Lib.hid B3
                      clear hx hh6 r4 r5 r6 r7 r3 B3
                      go_upto_if 113 with (go_at_call 110; refine hc.mono ?_; rintro e w7 ⟨rfl, hw7⟩; clear hc)
                      have hs7 : SU w w7 blk off d4 := by obtain ⟨n7, rfl⟩ := hw7; exact HS5.out.put _ R3.out _
                      have z4 : d4.size = d.size := R3.out.trans z3
                      have hh7 := hs7.holds HH.out z4 hblk
                      have hbl7 : blk < w7.heap.size := Nat.lt_of_lt_of_le hblk hs7.size
                      have HS7 := Lib.hid hs7
                      clear hw7 hs7
                      by_cases h4 : mid - a' < b' - mid
                      · have h4z : (mid : Int) - (a' : Int) < (b' : Int) - (mid : Int) := by omega
                        have hc := IH.out blk off len cap a' mid l1 d4 (by omega) w7 (by omega) hh7 hbl7 (by omega) (by omega) (by omega) (by omega) R4.out
                        clear hh7
                        go_wp2_with (go_at_call 92; refine hc.mono ?_; rintro e w8 ⟨rfl, hw8⟩; clear hc)
                        go_roundg (b' - (mid + 1))
                        case measure => omega
                        case rel =>
                          obtain ⟨d5, ⟨pL, sL⟩, hs8⟩ := hw8
                          obtain ⟨BL, hfin⟩ := R6.out d5 pL sL
                          exact ⟨mid + 1, b', l1, _, ap, d5, by first | rfl | (congr 1 <;> omega), rfl, rfl, rfl, rfl, by omega, by omega, Nat.le_refl _, by omega, by omega, by rw [pL.1, z4], BL, HS7.out.trans hs8 pL.1,
                            fun R h1 h2 => K.out R (permIn_trans _ _ _ _ _ HP3.out (hfin R h1 h2).1) (hfin R h1 h2).2⟩
                      · have h4z : ¬ ((mid : Int) - (a' : Int) < (b' : Int) - (mid : Int)) := by omega
                        have hc := IH.out blk off len cap (mid + 1) b' l1 d4 (by omega) w7 (by omega) hh7 hbl7 (by omega) (by omega) (by omega) (by omega) R5.out
                        clear hh7
                        go_wp2_with (go_at_call 92; refine hc.mono ?_; rintro e w8 ⟨rfl, hw8⟩; clear hc)
                        go_roundg (mid - a')
                        case measure => omega
                        case rel =>
                          obtain ⟨d5, ⟨pL, sL⟩, hs8⟩ := hw8
                          obtain ⟨BL, hfin⟩ := R7.out d5 pL sL
                          exact ⟨a', mid, l1, _, ap, d5, rfl, rfl, rfl, rfl, rfl, by omega, by omega, Nat.le_refl _, by omega, by omega, by rw [pL.1, z4], BL, HS7.out.trans hs8 pL.1,
                            fun R h1 h2 => K.out R (permIn_trans _ _ _ _ _ HP3.out (hfin R h1 h2).1) (hfin R h1 h2).2⟩
                    · obtain ⟨mid, d4, hx⟩ : ∃ mid d4, partitionEqual ltInt d3 a' b' p2 = (mid, d4) := ⟨_, _, rfl⟩
                      obtain ⟨ha0, hnl⟩ := CN.out rfl
                      obtain ⟨r1, r2, r3, r4, r5⟩ := round_eq swo_ltInt (partitionEqual_holds _) ha0 hpa2 hpb2 (by omega) B3 hnl hx
                      have hc := partitionEqual_u blk off len cap a' b' p2 d3 (by omega) wc hh6 hpa2 hpb2 (by omega) (by omega)
                      rw [hx] at hc
                      have R4 := Lib.hid r4; have R5 := Lib.hid r5; have R3 := Lib.hid r3
                      clear hx hh6 r4 r5 r3 B3 hnl
                      go_wp2_with (go_at_call 109; refine hc.mono ?_; rintro e w7 ⟨rfl, hw7⟩; clear hc)
                      go_roundg (b' - mid)
                      case measure => omega
                      case rel =>
                        obtain ⟨n7, rfl⟩ := hw7
                        exact ⟨mid, b', l1, wb, wp, d4, rfl, rfl, rfl, rfl, rfl, r2, hb', Nat.le_refl _, by omega, by omega, by rw [R3.out]; exact z3, R4.out, HS5.out.put _ R3.out _,
                          fun R h1 h2 => K.out R (permIn_trans _ _ _ _ _ HP3.out (R5.out R h1 h2).1) (R5.out R h1 h2).2⟩
end Go.Proofs.Ytofgcacahfdjdaa
namespace Go.Proofs.Ytofgcacahfdjdaa
set_option linter.unusedVariables false
set_option linter.unusedSimpArgs false
open Go.RowKit Go.Sort Go.Proofs Go.Proofs.YtofgcacahfdjdaaW.PrintWords
theorem sort_u (blk off len cap : Nat) (d : Array Int) (hlen : d.size = len) (w : World) (hH : Holds (Value.int .u64) w blk off d) (hblk : blk < w.heap.size) (hsz : d.size < 4611686018427387904) :
    Calls Try.prog 74 #[.slice (some ⟨blk, off, none⟩) len cap] w fun e w' =>
      e = .returned (.tuple #[]) ∧ ∃ d', (PermIn 0 len d d' ∧ SortedIn ltInt 0 len d') ∧ SU w w' blk off d' := by
  have C := Try.bits_Len len w (by omega) (by omega)
  rw [Int.toNat_natCast, bitLen_eq _ (by omega)] at C
  have hk : bitsLen len ≤ 62 := (bitsLen_le_iff len 62).2 (by omega)
  have wr : IntKind.u64.wrap (len : Int) = len := by rw [IntKind.wrap_u64]; omega
  have hc := fun lim (h : lim < 4611686018427387904) => pdqsort_u (len - 0 + 1) blk off len cap 0 len lim d hlen w (by omega) hH hblk (by omega) (by omega) (by omega) h (Or.inl rfl)
  have hc2 := hc (bitsLen len) (by omega)
  obtain ⟨B, hB⟩ : ∃ B, bitsLen len = B := ⟨_, rfl⟩
  rw [hB] at C hc2 hk
  have WR := Lib.hid wr
  clear hc hB wr hH
  go_enter Try.func74, Try.ntmps74
  go_wp2_with (first | (go_at_call 93; first | (refine C.mono ?_; rintro e w' ⟨rfl, rfl⟩; clear C) | (rw [WR.out]; refine C.mono ?_; rintro e w' ⟨rfl, rfl⟩; clear C)) | (go_at_call 92; refine hc2.mono ?_; rintro e w' ⟨rfl, hw⟩; clear hc2))
  go_end0
  exact ⟨rfl, hw⟩
end Go.Proofs.Ytofgcacahfdjdaa
namespace Go.Proofs.Ytofgcacahfdjdaa
set_option linter.unusedVariables false
set_option linter.unusedSimpArgs false
open Go.RowKit Go.Maps Go.Proofs.YtofgcacahfdjdaaW.PrintWords Go.Proofs.Ytofgcacahfdjdaa.Pure
abbrev KD := DataW Unit
def kone : KD := .lit (.int .i64 1)
theorem law49 : Keyed Try.prog 49 := int_keyed Try.underlying49
/-- The map has S for its keys, each with a one. -/
structure MapIs (D : KD) (S : List Int) : Prop where
  key : ∀ x, D.atKey (.int .u64 x) (.lit (.int .i64 0)) = .lit (.int .i64 (if x ∈ S then 1 else 0))
  has : ∀ x, Maps.has D (.int .u64 x) = decide (x ∈ S)
  size : Maps.size D = S.length
theorem MapIs.nil : MapIs (.map []) [] := ⟨fun x => rfl, fun x => rfl, rfl⟩
theorem MapIs.put {D : KD} {S S' : List Int} {x : Int} (h : MapIs D S) (ht : Tidy D) (hx : x ∉ S) (hm : ∀ y, y ∈ S' ↔ y = x ∨ y ∈ S) (hl : S'.length = S.length + 1) : MapIs (D.put (.int .u64 x) kone) S' := by
  refine ⟨fun y => ?_, fun y => ?_, ?_⟩
  · by_cases e : y = x
    · subst e
      rw [atKey_put_same (k := .int .u64 y) ht.isMap trivial, if_pos ((hm _).2 (.inl rfl))]; rfl
    · rw [atKey_put_other (by intro c; cases c; exact e rfl), h.key]
      by_cases hy : y ∈ S
      · rw [if_pos hy, if_pos ((hm _).2 (.inr hy))]
      · rw [if_neg hy, if_neg (fun c => by rcases (hm _).1 c with c | c <;> contradiction)]
  · by_cases e : y = x
    · subst e
      rw [has_put_same (k := .int .u64 y) ht.isMap trivial, decide_eq_true ((hm _).2 (.inl rfl))]
    · rw [has_put_other (by intro c; cases c; exact e rfl), h.has]
      exact decide_eq_decide.2 ⟨fun c => (hm _).2 (.inr c), fun c => ((hm _).1 c).resolve_left e⟩
  · rw [size_put ht, h.has, decide_eq_false hx, if_neg (by simp), h.size, hl]
theorem MapIs.del {D : KD} {S S' : List Int} {x : Int} (h : MapIs D S) (ht : Tidy D) (hx : x ∈ S) (hm : ∀ y, y ∈ S' ↔ y ∈ S ∧ y ≠ x) (hl : S.length = S'.length + 1) : MapIs (D.del (.int .u64 x)) S' := by
  refine ⟨fun y => ?_, fun y => ?_, ?_⟩
  · by_cases e : y = x
    · subst e
      rw [atKey_del_same, if_neg (fun c => ((hm _).1 c).2 rfl)]
    · rw [atKey_del_other (by intro c; cases c; exact e rfl), h.key]
      by_cases hy : y ∈ S
      · rw [if_pos hy, if_pos ((hm _).2 ⟨hy, e⟩)]
      · rw [if_neg hy, if_neg (fun c => hy ((hm _).1 c).1)]
  · by_cases e : y = x
    · subst e
      rw [has_del_same, decide_eq_false (fun c => ((hm _).1 c).2 rfl)]
    · rw [has_del_other (by intro c; cases c; exact e rfl), h.has]
      exact decide_eq_decide.2 ⟨fun c => (hm _).2 ⟨c, e⟩, fun c => ((hm _).1 c).1⟩
  · have := size_del (k := .int .u64 x) ht
    rw [h.has, decide_eq_true hx, if_pos rfl, h.size] at this
    omega
/-- The bound on the number of entries may be their number. -/
theorem ownsMap_tight {w : World} {b n : Nat} {D : KD} (h : w.ownsMap Try.prog 49 (plainElem Try.prog 3) b n D) : w.ownsMap Try.prog 49 (plainElem Try.prog 3) b (Maps.size D) D := by
  obtain ⟨es, clock, h1, h2, h3, h4⟩ := h
  refine ⟨es, clock, h1, h2, ?_, h4⟩
  rw [h4]
  simp [Maps.size, length_sorted]
/-- Block mb is the map of S. -/
def KMap (w : World) (mb : Nat) (S : List Int) : Prop := ∃ D : KD, w.ownsMap Try.prog 49 (plainElem Try.prog 3) mb S.length D ∧ MapIs D S
/-- What S must be: it rises, at most 1024 numbers of 64 bits. -/
def KGood (S : List Int) : Prop := Asc S ∧ S.length ≤ 1024 ∧ ∀ x ∈ S, 0 ≤ x ∧ x < 18446744073709551616
/-- Block kb is a Kmv of S with its map in block mb. -/
structure KM (w : World) (kb mb : Nat) (S : List Int) : Prop where
  ne : kb ≠ mb
  map : KMap w mb S
  good : KGood S
  cells : ∃ top : Int, w.heap[kb]? = some (.cells #[.map (some mb), .int .u64 top] 108 (0, 0)) ∧ (S.length = 1024 → top ∈ S ∧ ∀ x ∈ S, x ≤ top)
theorem KMap.block {w w' : World} {mb : Nat} {S : List Int} (h : KMap w mb S) (he : w'.heap[mb]? = w.heap[mb]?) : KMap w' mb S := by
  obtain ⟨D, ⟨es, clock, h1, h2⟩, h3⟩ := h
  exact ⟨D, ⟨es, clock, he.trans h1, h2⟩, h3⟩
theorem KMap.lt {w : World} {mb : Nat} {S : List Int} (h : KMap w mb S) : mb < w.heap.size := by
  obtain ⟨D, h1, _⟩ := h; exact h1.lt
theorem KM.block {w w' : World} {kb mb : Nat} {S : List Int} (h : KM w kb mb S) (h1 : w'.heap[kb]? = w.heap[kb]?) (h2 : w'.heap[mb]? = w.heap[mb]?) : KM w' kb mb S :=
  ⟨h.ne, h.map.block h2, h.good, by obtain ⟨t, e, r⟩ := h.cells; exact ⟨t, h1.trans e, r⟩⟩
theorem below_but {w w' : World} {B r : Nat} (h : w.grownBy w' (some r)) (hr : B ≤ r) (hB : B ≤ w.heap.size) : Below B w w' :=
  Below.grown (Below.refl B w) h hB (fun k e => by cases e; exact hr)
set_option maxHeartbeats 1000000 in
set_option maxRecDepth 100000 in
theorem greatest_u (kb mb : Nat) (top : Int) (S : List Int) (w : World) (hc : w.heap[kb]? = some (.cells #[.map (some mb), .int .u64 top] 108 (0, 0))) (hm : KMap w mb S) (hr : ∀ x ∈ S, 0 ≤ x ∧ x < 18446744073709551616) :
    Calls Try.prog 88 #[.pointer (some ⟨kb, 0, none⟩)] w fun e w' => ∃ m : Int, e = .returned (.int .u64 m) ∧ (∀ x ∈ S, x ≤ m) ∧ (m ∈ S ∨ m = 0) ∧ Below w.heap.size w w' := by
  obtain ⟨D, hown, hD⟩ := hm
  have hc0 := blk_cell hc 0
  have hk : ∀ x ∈ S, Maps.has D (.int .u64 x) = true := fun x hx => by rw [hD.has]; exact decide_eq_true hx
  have hk2 : ∀ x, Maps.has D (.int .u64 x) = true → x ∈ S := fun x hx => by rw [hD.has] at hx; exact of_decide_eq_true hx
  have HK := Lib.hid hk; have HK2 := Lib.hid hk2; have HR := Lib.hid hr
  clear hk hk2 hr hD
  go_enter Try.func88, Try.ntmps88
  go_wp2
  go_step3
  go_wp2
  go_step3
  go_wp2_with (first
    | (at_range; refine wpList_range_own _ rfl _ 106 rfl 49 3 law49 Try.underlying106 _ mb _ _ rfl hown ?_; intro w0 hrg0 hg0 hs0)
    | go_in)
  (try go_frame)
  go_loopw [3] (fun s3 wr => ∃ (left : Lit → Bool) (cnt : Nat) (m : Int), s3 = .int .u64 m ∧ wr.ranges Try.prog 49 (plainElem Try.prog 3) mb w.heap.size S.length D left cnt ∧ Below w.heap.size w wr ∧
      (∀ x ∈ S, left (.int .u64 x) = true ∨ x ≤ m) ∧ (∀ x, left (.int .u64 x) = true → x ∈ S) ∧ (m ∈ S ∨ m = 0))
    (fun _ wr => wr.rangeLeft mb w.heap.size)
  case atStart => exact ⟨_, _, 0, rfl, hrg0, Below.grown (Below.refl _ w) hg0 (Nat.le_refl _) (fun k e => by cases e), fun x hx => .inl (HK.out x hx), HK2.out, .inr rfl⟩
  case round =>
    obtain ⟨left, cnt, m, rfl, hrg, hb, hi1, hi2, hi3⟩ := hrel
    have I1 := Lib.hid hi1; have I2 := Lib.hid hi2; have I3 := Lib.hid hi3
    clear hi1 hi2 hi3
    go_wp2_with (first
      | (at_next; refine wpList_next_ranges_ii _ rfl _ rfl 49 3 .u64 .i64 law49 Try.underlying49 Try.underlying3 mb w.heap.size _ _ _ _ rfl hrg ?_ ?_)
      | go_in)
    · intro _ hl0
      go_wp2
      (try rw [Exit.noGoto_ret])
      go_ret
      exact ⟨m, rfl, fun x hx => (I1.out x hx).resolve_left (by rw [hl0]; simp), I3.out, hb⟩
    · intro x c w1 cnt1 hwx hwc hlx hat hrg1 hlt hg1 hs1 hen
      have hb1 : Below w.heap.size w w1 := hb.trans (below_but hg1 (Nat.le_refl _) hb.size)
      have hxS := I2.out x hlx
      have hx0 := (HR.out x hxS).1
      clear hat hwc hwx
      go_wp2
      · have hle : x ≤ m := by first | assumption | omega
        go_roundw
        case rel => exact ⟨_, cnt1, m, rfl, hrg1, hb1, fun y hy => (I1.out y hy).elim (fun h => if e : y = x then .inr (by omega) else .inl (by simp [h, Lit.sameKey]; exact fun c => e c)) .inr, fun y hy => I2.out y (by simp at hy; exact hy.1), I3.out⟩
        case measure => rw [hrg1.left_eq, hrg.left_eq]; omega
      · have hle : ¬ x ≤ m := by first | assumption | omega
        go_roundw
        case rel => exact ⟨_, cnt1, x, rfl, hrg1, hb1, fun y hy => (I1.out y hy).elim (fun h => if e : y = x then .inr (by omega) else .inl (by simp [h, Lit.sameKey]; exact fun c => e c)) (fun h => .inr (by omega)), fun y hy => I2.out y (by simp at hy; exact hy.1), .inl hxS⟩
        case measure => rw [hrg1.left_eq, hrg.left_eq]; omega
end Go.Proofs.Ytofgcacahfdjdaa
namespace Go.Proofs.Ytofgcacahfdjdaa
set_option linter.unusedVariables false
set_option linter.unusedSimpArgs false
open Go.RowKit Go.Sort Go.Proofs.YtofgcacahfdjdaaW.PrintWords Go.Proofs.Ytofgcacahfdjdaa.Pure
theorem insertionSort_nil (w : World) : Calls Try.prog 102 #[.slice none 0 0, .int .i64 0, .int .i64 0] w fun e w' => e = .returned (.tuple #[]) ∧ w' = w := by
  go_enter Try.func102, Try.ntmps102
  go_wp2
  go_loopw [6] (fun vi wr => vi = .int .i64 1 ∧ wr = w) (fun _ _ => 0)
  case atStart => exact ⟨rfl, rfl⟩
  case round =>
    obtain ⟨rfl, rfl⟩ := hrel
    go_wp2
    go_end0
    exact ⟨rfl, rfl⟩
theorem pdqsort_nil (w : World) (lim : Nat) : Calls Try.prog 92 #[.slice none 0 0, .int .i64 0, .int .i64 0, .int .i64 lim] w fun e w' => e = .returned (.tuple #[]) ∧ w' = w := by
  have C := insertionSort_nil w
  go_enter Try.func92, Try.ntmps92
  go_wp2
  go_loopw [1, 2] (fun va vb wr => va = .int .i64 0 ∧ vb = .int .i64 0 ∧ wr = w) (fun _ _ _ => 0)
  case atStart => exact ⟨rfl, rfl, rfl⟩
  case round =>
    obtain ⟨rfl, rfl, rfl⟩ := hrel
    go_wp2_with (go_at_call 102; refine C.mono ?_; rintro e w1 ⟨rfl, rfl⟩)
    (try simp only [Exit.inBlock, Exit.then]); refine bodyPost_ret (results_none rfl _ _ _) rfl ?_
    exact ⟨rfl, rfl⟩
theorem sort_nil (w : World) : Calls Try.prog 74 #[.slice none 0 0] w fun e w' => e = .returned (.tuple #[]) ∧ w' = w := by
  have C := Try.bits_Len 0 w (by omega) (by omega)
  have C2 := pdqsort_nil w (Lib.bitLen (Int.toNat 0))
  go_enter Try.func74, Try.ntmps74
  go_wp2_with (first | (go_at_call 93; refine C.mono ?_; rintro e w' ⟨rfl, rfl⟩; clear C) | (go_at_call 92; refine C2.mono ?_; rintro e w' ⟨rfl, rfl⟩; clear C2))
  go_end0
  exact ⟨rfl, rfl⟩
theorem sort_own {w : World} {base : Nat} {v : Value} {l : List Int} (ho : w.ownsRow base 49 1 v l.length (nums .u64 l)) (hl : l.length < 4611686018427387904) :
    Calls Try.prog 74 #[v] w fun e w' => e = .returned (.tuple #[]) ∧ ∃ l' : List Int, l'.Perm l ∧ l'.Pairwise (fun a b => a ≤ b) ∧ w'.ownsRow base 49 1 v l'.length (nums .u64 l') ∧ Below base w w' := by
  rcases ho.2 with ⟨rfl, h0⟩ | ⟨g, cap, cur, rfl, hbg, hg, hnc, hcm, hcs, htake⟩
  · have hn : l = [] := List.eq_nil_of_length_eq_zero h0
    subst hn
    exact (sort_nil w).mono fun e w' ⟨he, hw⟩ => ⟨he, [], List.Perm.refl _, List.Pairwise.nil, by rw [hw]; exact ho, by rw [hw]; exact Below.refl _ _⟩
  · have hH : Holds (Value.int .u64) w g 0 l.toArray := by
      intro j hj
      have hj' : j < l.length := by simpa using hj
      have hc : cur.toList[j]? = some (Value.int .u64 (l.toArray[j]!)) := by
        have e : (nums .u64 l)[j]? = some (Value.int .u64 (l.toArray[j]!)) := by
          unfold nums
          rw [List.getElem?_map, List.getElem?_eq_getElem hj']
          simp [getElem!_pos, hj']
        rw [← htake] at e
        rw [List.getElem?_take] at e
        split at e
        · exact e
        · cases e
      refine ⟨?_, ?_⟩
      · have := blk_cell hg (0 + j)
        rw [this]
        simpa using hc
      · exact blk_frozen hg (0 + j)
    refine (sort_u g 0 l.length cap l.toArray (by simp) w hH (by have := Array.getElem?_eq_some_iff.1 hg; exact this.1) (by simpa using hl)).mono ?_
    rintro e w' ⟨rfl, d', ⟨hp, hs⟩, hu⟩
    have e1 : d'.size = l.length := by rw [hp.1]; simp
    have hgs : g < w.heap.size := (Array.getElem?_eq_some_iff.1 hg).1
    have hw : w'.heap[g]? = some (.cells (putCells (Value.int .u64) 0 d' cur) 49 (0, 0)) := by
      rw [hu.block g hgs]
      unfold putRow mapBlock
      simp only [Array.getElem?_modify, if_true, hg, Option.map_some, onCells]
    refine ⟨rfl, d'.toList, ?_, ?_, ⟨?_, .inr ⟨g, cap, _, ?_, hbg, hw, ?_, hcm, ?_, ?_⟩⟩, ⟨hu.os, hu.tape, hu.output, hu.size, fun k hk => ?_⟩⟩
    · have := hp.2.2
      have e2 : List.take d'.size l = l := List.take_of_length_le (by omega)
      simpa [← e1, e2] using this
    · rw [List.pairwise_iff_getElem]
      intro i j hi hj hij
      have hj' : j < d'.size := by simpa using hj
      have := hs i j (Nat.zero_le _) hij (by omega)
      rw [getElem!_pos d' j hj', getElem!_pos d' i (by omega)] at this
      simp only [ltInt, decide_eq_false_iff_not, Array.getElem_toList] at this ⊢
      omega
    · simp [nums]
    · congr 1; simp [e1]
    · simpa [e1] using hnc
    · unfold putCells; simpa using hcs
    · unfold putCells nums
      apply List.ext_getElem?
      intro i
      rw [List.getElem?_take]
      by_cases hi : i < l.length
      · have hic : i < cur.size := by omega
        have hid : i < d'.size := by omega
        rw [if_pos (by simpa [e1] using hi)]
        simp [hic, hid, getElem!_pos d' i hid]
      · rw [if_neg (by simpa [e1] using hi), List.getElem?_eq_none (by simp [e1]; omega)]
    · rw [hu.block k (by omega)]
      exact putRow_heap _ _ _ _ _ (by omega)
end Go.Proofs.Ytofgcacahfdjdaa
namespace Go.Proofs.Ytofgcacahfdjdaa
set_option linter.unusedVariables false
set_option linter.unusedSimpArgs false
open Go.RowKit Go.Maps Go.Proofs.YtofgcacahfdjdaaW.PrintWords Go.Proofs.Ytofgcacahfdjdaa.Pure
theorem info49 : (Try.prog.info? 49).map (fun i => (i.zero, i.size, i.bytes)) = some (some (.int .u64 0), 1, 8) := by kernel_rfl
theorem asc_of_sorted {l : List Int} (h : l.Pairwise (fun a b => a ≤ b)) (hn : l.Nodup) : Asc l := by
  have := List.pairwise_and_iff.2 ⟨h, hn⟩
  exact this.imp (fun ⟨a, b⟩ => by have : _ ≠ _ := b; omega)
set_option maxHeartbeats 1000000 in
set_option maxRecDepth 100000 in
theorem hashes_u (kb mb : Nat) (S : List Int) (w : World) (h : KM w kb mb S) :
    Calls Try.prog 53 #[.pointer (some ⟨kb, 0, none⟩)] w fun e w' => ∃ v, e = .returned v ∧ w'.ownsRow w.heap.size 49 1 v S.length (nums .u64 S) ∧ Below w.heap.size w w' := by
  obtain ⟨_, ⟨D, hown, hD⟩, ⟨hA, hL, hr⟩, top, hc, _⟩ := h
  have hc0 := blk_cell hc 0
  have hk : ∀ x, Maps.has D (.int .u64 x) = true ↔ x ∈ S := fun x => by rw [hD.has]; exact decide_eq_true_iff
  have HK := Lib.hid hk; have HA := Lib.hid hA
  clear hk hD hA hr
  go_enter Try.func53, Try.ntmps53
  go_wp2_with (first
    | (at_range; refine wpList_range_own _ rfl _ 106 rfl 49 3 law49 Try.underlying106 _ mb _ _ rfl hown ?_; intro w0 hrg0 hg0 hs0)
    | go_in)
  go_frame
  go_loopw [3] (fun s3 wr => ∃ (left : Lit → Bool) (cnt : Nat) (l : List Int), wr.ranges Try.prog 49 (plainElem Try.prog 3) mb w.heap.size S.length D left cnt ∧ Below w.heap.size w wr ∧
      (Kd.int .u64).R 49 wr w.heap.size (fun k => k ≠ w.heap.size) s3 l ∧ l.Nodup ∧ (∀ x, left (.int .u64 x) = true → x ∈ S) ∧ (∀ x, x ∈ l ↔ x ∈ S ∧ left (.int .u64 x) = false))
    (fun _ wr => wr.rangeLeft mb w.heap.size)
  case atStart => exact ⟨_, _, [], hrg0, Below.grown (Below.refl _ w) hg0 (Nat.le_refl _) (fun k e => by cases e), Kd.R_nil _ _ _ _ _, List.nodup_nil, fun x hx => (HK.out x).1 hx, fun x => ⟨fun c => by simp at c, fun ⟨c1, c2⟩ => by rw [(HK.out x).2 c1] at c2; cases c2⟩⟩
  case round =>
    obtain ⟨left, cnt, l, hrg, hb, hl, hnd, hi1, hi2⟩ := hrel
    have I1 := Lib.hid hi1; have I2 := Lib.hid hi2; have ND := Lib.hid hnd
    clear hi1 hi2 hnd
    go_wp2_with (first
      | (at_next; refine wpList_next_ranges_ii _ rfl _ rfl 49 3 .u64 .i64 law49 Try.underlying49 Try.underlying3 mb w.heap.size _ _ _ _ rfl hrg ?_ ?_)
      | go_in)
    · intro _ hl0
      have hm : ∀ x, x ∈ l ↔ x ∈ S := fun x => by rw [I2.out x, hl0]; simp
      have hlen : l.length ≤ S.length := nodup_le ND.out (fun x hx => (hm x).1 hx)
      have C := sort_own (Kd.own_of_R hl) (by omega)
      have HM := Lib.hid hm; have HB := Lib.hid hb
      clear hm hl0 hl
      go_wp2_with (go_at_call 74; refine C.mono ?_; rintro e w1 ⟨rfl, l', hp, hs, ho, hb1⟩; clear C)
      go_ret
      have e : l' = S := asc_ext (asc_of_sorted hs (hp.nodup_iff.2 ND.out)) HA.out (fun x => by rw [hp.mem_iff, HM.out])
      exact ⟨_, rfl, by rw [← e]; exact ho, HB.out.trans hb1⟩
    · intro x c w1 cnt1 hwx hwc hlx hat hrg1 hlt hg1 hs1 hen
      have hb1 : Below w.heap.size w w1 := hb.trans (below_but hg1 (Nat.le_refl _) hb.size)
      have hl1 : (Kd.int .u64).R 49 w1 w.heap.size (fun k => k ≠ w.heap.size) u3 l := Kd.R_grown hl hg1 (fun k hk c => hk (by simpa using c))
      have hxS := I1.out x hlx
      have hxl : x ∉ l := fun c => by have := ((I2.out x).1 c).2; rw [hlx] at this; cases this
      have hll : l.length ≤ S.length := nodup_le ND.out (fun y hy => ((I2.out y).1 hy).1)
      have hrl := hrg1.lt
      have hmb := hown.lt
      have HX := Lib.hid hxl; have HXS := Lib.hid hxS; have HB := Lib.hid hb1; have HLX := Lib.hid hlx; have HRG := Lib.hid hrg1
      have HBS := Kd.R_base hl1; have HOK := hl1.1
      have HBS := Lib.hid HBS; have HOK := Lib.hid HOK
      clear hat hwc hwx hxl hb hb1 hl hlx hrg1 hxS hs1
      go_wp2_with ((with_reducible refine gate_builtin (b := .append) (xs := #[.tmp 17, .tmp 19]) rfl ?_); at_builtin; refine Kd.R_append (Kd.int .u64) (w0 := w) (W := w1) w.heap.size rfl (.tmp 17) (.tmp 19) 39 49 (.int .u64 0) 8 rfl Try.underlying39 info49 rfl (by decide) (by omega) u3 l x [.int .u64 x] (fun k => k ≠ w.heap.size) (fun _ => False) rfl rfl rfl (fun _ hk => hk.elim) (fun k hk => by omega) hl1 HB.out (by omega) (by omega) ?_; intro v2 w2 ho2 hb2 hg2 hat2)
      go_roundw
      case rel =>
        refine ⟨_, cnt1, l ++ [x], HRG.out.kept hg2 ?_ ?_, hb2, ho2, ?_, ?_, ?_⟩
        · intro c
          have := HBS.out mb c.symm
          omega
        · intro c
          exact HOK.out _ c.symm rfl
        · exact List.nodup_append.2 ⟨ND.out, by simp, fun a ha b hb c => by simp at hb; subst hb; subst c; exact HX.out ha⟩
        · intro y hy
          simp at hy
          exact I1.out y hy.1
        · intro y
          rw [List.mem_append, List.mem_singleton, I2.out y]
          by_cases e : y = x
          · subst e; simp [HXS.out, Lit.sameKey]
          · simp [e, Lit.sameKey]
      case measure => rw [(HRG.out.kept hg2 (fun c => by have := HBS.out mb c.symm; omega) (fun c => HOK.out _ c.symm rfl)).left_eq, hrg.left_eq]; omega
end Go.Proofs.Ytofgcacahfdjdaa
namespace Go.Proofs.Ytofgcacahfdjdaa
set_option linter.unusedVariables false
set_option linter.unusedSimpArgs false
open Go.RowKit Go.Maps Go.Proofs.YtofgcacahfdjdaaW.PrintWords Go.Proofs.Ytofgcacahfdjdaa.Pure
theorem kgood_nil : KGood [] := ⟨List.Pairwise.nil, by simp, fun x hx => by simp at hx⟩
theorem new_u (w : World) : Calls Try.prog 50 #[] w fun e w' => ∃ kb mb, e = .returned (.pointer (some ⟨kb, 0, none⟩)) ∧ KM w' kb mb [] ∧ w.heap.size ≤ kb ∧ w.heap.size ≤ mb ∧ Below w.heap.size w w' := by
  have h1 := World.ownsMap_made (H := Unit) w Try.prog 49 (plainElem Try.prog 3)
  have h2 := h1.alloc (.cells #[.map (some w.heap.size), .int .u64 0] 108)
  have b1 : Below w.heap.size w ((w.alloc (.map #[] 0)).alloc (.cells #[.map (some w.heap.size), .int .u64 0] 108)) :=
    ((Below.refl w.heap.size w).alloc (Nat.le_refl _) (.map #[] 0)).alloc (by simp) _
  have n1 := blk_new (w.alloc (.map #[] 0)) (Obj.cells #[.map (some w.heap.size), .int .u64 0] 108)
  have H2 := Lib.hid h2; have B1 := Lib.hid b1; have N1 := Lib.hid n1
  clear h1 h2 b1 n1
  have hmk : ∀ w, (Instr.makeMap 106 none).run Try.prog w = .ok (.map (some w.heap.size)) (w.alloc (.map #[] 0)) := fun w => run_makeMap 106 w
  go_enter Try.func50, Try.ntmps50
  go_wp2
  go_ret
  exact ⟨w.heap.size + 1, w.heap.size, by simp, ⟨by omega, ⟨_, H2.out, MapIs.nil⟩, kgood_nil, ⟨0, by simpa using N1.out, by simp⟩⟩, by omega, Nat.le_refl _, B1.out⟩
theorem khash_in {S : List Int} {h : Int} (hA : Asc S) (hl : S.length ≤ 1024) (hm : h ∈ S) : khash S h = S := by
  unfold khash; rw [kins_mem hA hm, List.take_of_length_le hl]
theorem kins_over {h : Int} : ∀ {S : List Int}, (∀ x ∈ S, x < h) → kins h S = S ++ [h] := by
  intro S
  induction S with
  | nil => intro _; rfl
  | cons x r ih =>
    intro hx
    have := hx x (by simp)
    rw [kins, if_neg (by omega), if_neg (by omega), ih (fun y hy => hx y (by simp [hy]))]; rfl
theorem khash_over {S : List Int} {h : Int} (hl : S.length = 1024) (hm : ∀ x ∈ S, x < h) : khash S h = S := by
  unfold khash; rw [kins_over hm, List.take_append_of_le_length (by omega), List.take_of_length_le (by omega)]
theorem khash_new {S : List Int} {h : Int} (hA : Asc S) (hl : S.length < 1024) (hm : h ∉ S) : khash S h = kins h S := by
  unfold khash; rw [List.take_of_length_le (by rw [kins_len hA hm]; omega)]
theorem mem_but_last {L : List Int} {n : Nat} {m : Int} (hA : Asc L) (hl : L.length = n + 1) (hm : m ∈ L) (hx : ∀ x ∈ L, x ≤ m) (y : Int) : y ∈ L.take n ↔ y ∈ L ∧ y ≠ m := by
  rcases List.eq_nil_or_concat L with rfl | ⟨K, z, rfl⟩
  · simp at hl
  · simp only [List.concat_eq_append, List.length_append, List.length_cons, List.length_nil] at *
    have hK : K.length = n := by omega
    have hz : ∀ a ∈ K, a < z := fun a ha => (List.pairwise_append.1 hA).2.2 a ha z (by simp)
    have e : z = m := by
      have h1 := hx z (by simp)
      rcases List.mem_append.1 hm with c | c
      · have := hz m c; omega
      · simp at c; exact c.symm
    rw [List.take_append_of_le_length (by omega), List.take_of_length_le (by omega), ← e]
    simp only [List.mem_append, List.mem_singleton]
    exact ⟨fun c => ⟨.inl c, fun c2 => by have := hz y c; omega⟩, fun ⟨c, c2⟩ => c.resolve_right c2⟩
theorem kgood_khash {S : List Int} (hg : KGood S) {h : Int} (h0 : 0 ≤ h ∧ h < 18446744073709551616) : KGood (khash S h) := by
  refine ⟨asc_khash hg.1 h, khash_len S h, fun x hx => ?_⟩
  rcases (mem_kins h S x).1 (List.mem_of_mem_take hx) with c | c
  · rw [c]; exact h0
  · exact hg.2.2 x c
/-- Only the two blocks of a Kmv have changed of those that stood. -/
def KF (w w' : World) (kb mb : Nat) : Prop := w'.os = w.os ∧ w'.tape = w.tape ∧ w'.output = w.output ∧ w.heap.size ≤ w'.heap.size ∧ ∀ i, i < w.heap.size → i ≠ kb → i ≠ mb → w'.heap[i]? = w.heap[i]?
theorem KF.refl (w : World) (kb mb : Nat) : KF w w kb mb := ⟨rfl, rfl, rfl, Nat.le_refl _, fun _ _ _ _ => rfl⟩
theorem KF.trans {a b c : World} {kb mb : Nat} (h : KF a b kb mb) (k : KF b c kb mb) : KF a c kb mb :=
  ⟨k.1.trans h.1, k.2.1.trans h.2.1, k.2.2.1.trans h.2.2.1, Nat.le_trans h.2.2.2.1 k.2.2.2.1, fun i hi h1 h2 => (k.2.2.2.2 i (Nat.lt_of_lt_of_le hi h.2.2.2.1) h1 h2).trans (h.2.2.2.2 i hi h1 h2)⟩
theorem KF.below {a b : World} {kb mb : Nat} (h : Below a.heap.size a b) : KF a b kb mb := ⟨h.os, h.tape, h.output, h.size, fun i hi _ _ => h.block i hi⟩
theorem KF.grown {a b : World} {kb mb : Nat} (h : a.grownBy b (some mb)) : KF a b kb mb := ⟨h.os, h.tape, h.output, h.size, fun i hi _ h2 => h.block i hi (by simpa using h2)⟩
theorem KF.set {a : World} {kb mb : Nat} (j : Nat) (v : Value) : KF a (a.setCell ⟨kb, j, none⟩ v) kb mb := ⟨rfl, rfl, rfl, by simp, fun i _ h1 _ => Below.heap_setCell a ⟨kb, j, none⟩ v i h1⟩
theorem KM.topped {w : World} {kb mb : Nat} {L : List Int} {t m : Int} (hne : kb ≠ mb) (hm : KMap w mb L) (hg : KGood L) (hc : w.heap[kb]? = some (.cells #[.map (some mb), .int .u64 t] 108 (0, 0))) (hin : m ∈ L) (hx : ∀ x ∈ L, x ≤ m) :
    KM (w.setCell ⟨kb, 1, none⟩ (.int .u64 m)) kb mb L :=
  ⟨hne, hm.block (Below.heap_setCell w ⟨kb, 1, none⟩ _ mb (Ne.symm hne)), hg, ⟨m, blk_set hc 1 (.int .u64 m), fun _ => ⟨hin, hx⟩⟩⟩
theorem greatest_in {L : List Int} {m : Int} (hg : KGood L) (hl : L.length = 1024) (hx : ∀ x ∈ L, x ≤ m) (hin : m ∈ L ∨ m = 0) : m ∈ L := by
  rcases hin with h | h
  · exact h
  · cases L with
    | nil => simp at hl
    | cons x r =>
      have h1 := hx x (by simp)
      have h2 := (hg.2.2 x (by simp)).1
      have : x = m := by omega
      rw [← this]; simp
set_option maxHeartbeats 2000000 in
set_option maxRecDepth 100000 in
theorem hash_u (kb mb : Nat) (S : List Int) (h : Int) (h0 : 0 ≤ h ∧ h < 18446744073709551616) (w : World) (hk : KM w kb mb S) :
    Calls Try.prog 71 #[.pointer (some ⟨kb, 0, none⟩), .int .u64 h] w fun e w' => e = .returned (.tuple #[]) ∧ KM w' kb mb (khash S h) ∧ KF w w' kb mb := by
  have hkm := hk
  obtain ⟨hne, ⟨D, hown, hD⟩, ⟨hA, hL, hr⟩, top, hc, htop⟩ := hk
  have wfh : (Lit.int .u64 h).wf = true := by
    have e1 : IntKind.u64.min = 0 := by decide
    have e2 : IntKind.u64.max = 18446744073709551615 := by decide
    simp only [Lit.wf, e1, e2, Bool.and_eq_true, decide_eq_true_eq]; omega
  have hc0 := blk_cell hc 0
  have hc1 := blk_cell hc 1
  obtain ⟨c, hlook, hat, hwc⟩ := hown.lookup_int law49 Try.underlying106 Try.underlying3 (by rfl) (keyOf_int_mk Try.underlying49 wfh)
  have hlen := fun ty => hown.len Try.underlying106 ty
  rw [hD.size] at hlen
  rw [hD.key] at hat
  by_cases hm : h ∈ S
  · rw [if_pos hm] at hat
    obtain rfl : c = 1 := by injection hat with e; injection e with _ e; exact e.symm
    have E := Lib.hid (khash_in hA hL hm)
    have KK := Lib.hid hkm
    clear hat hwc hA hL hr hm hD hown hkm htop
    go_enter Try.func71, Try.ntmps71
    go_wp2
    (try simp only [Exit.inBlock, Exit.then]); refine bodyPost_ret (results_none rfl _ _ _) rfl ?_
    exact ⟨rfl, by rw [E.out]; exact KK.out, KF.refl _ _ _⟩
  · rw [if_neg hm] at hat
    obtain rfl : c = 0 := by injection hat with e; injection e with _ e; exact e.symm
    clear hat hwc
    have hD1 := hD.put (hown.tidy law49) hm (mem_kins h S) (kins_len hA hm)
    have hkl := kins_len hA hm
    have hval : plainElem (H := Unit) Try.prog 3 (.int .i64 1) = some (kone, []) := plainElem_int Try.underlying3 (by decide)
    have hkb : kb < w.heap.size := (Array.getElem?_eq_some_iff.1 hc).1
    have hkey := keyOf_int_mk Try.underlying49 wfh
    by_cases h1024 : S.length = 1024
    · rw [h1024] at hlen
      obtain ⟨ht1, ht2⟩ := htop h1024
      by_cases hgt : top < h
      · have E := Lib.hid (khash_over (h := h) h1024 (fun x hx => by have := ht2 x hx; omega))
        have KK := Lib.hid hkm
        clear hA hL hr hm hD hown hkm htop hD1 ht2 h1024 hkl hval
        go_enter Try.func71, Try.ntmps71
        go_wp2
        (try simp only [Exit.inBlock, Exit.then]); refine bodyPost_ret (results_none rfl _ _ _) rfl ?_
        exact ⟨rfl, by rw [E.out]; exact KK.out, KF.refl _ _ _⟩
      · have hlt : h < top := by
          have : h ≠ top := fun c => hm (c ▸ ht1)
          omega
        have hle : ¬ top < h := hgt
        have hkl2 : (kins h S).length = 1025 := by omega
        have hin1 : top ∈ kins h S := (mem_kins h S top).2 (.inr ht1)
        have hmax : ∀ x ∈ kins h S, x ≤ top := fun x hx => by rcases (mem_kins h S x).1 hx with c | c; · omega
                                                              · exact ht2 x c
        have hmem := mem_but_last (asc_kins h hA) hkl2 hin1 hmax
        have hgd := kgood_khash hkm.good h0 (h := h)
        have hlk : (khash S h).length = 1024 := by unfold khash; rw [List.length_take]; omega
        have HGD := Lib.hid hgd; have HMEM := Lib.hid hmem; have HIN1 := Lib.hid hin1; have HLK := Lib.hid hlk
        have HD1 := Lib.hid hD1; have HSZ := Lib.hid (hD1.size.trans hkl2); have HL := Lib.hid h1024
        have hr2 := hr top ht1
        clear hA hL hr hm hD hkm htop hD1 hkl hkl2 hgd hmem hin1 hmax ht1 ht2 hlk h1024 hgt
        go_enter Try.func71, Try.ntmps71
        go_upto_if 41 with (first
          | (at_mapUpdate; refine wpList_mapUpdate_own _ rfl _ _ _ 106 rfl 49 3 law49 Try.underlying106 _ mb S.length D rfl hown (by have : maxLen = 9223372036854775807 := rfl; have := HL.out; omega) _ _ (.int .u64 h) rfl rfl hkey kone [] hval ?_; intro w1 hown1 hg1; have hc2 := (hg1.block kb hkb (by simp [hne])).trans hc; have hcc0 := blk_cell hc2 0; have hcc1 := blk_cell hc2 1; have hlen1 := fun ty => hown1.len Try.underlying106 ty; rw [HSZ.out, show ((1025 : Nat) : Int) = 1025 from rfl] at hlen1)
          | go_in)
        have HG1 := Lib.hid hg1
        have k1 := (Array.getElem?_eq_some_iff.1 hc2).1
        have ht1 := hown1.tidy law49
        have own2 := hown1.drew
        have hc3 : w1.drew.heap[kb]? = some (.cells #[.map (some mb), .int .u64 top] 108 (0, 0)) := hc2
        have kF : KF w1 w1.drew kb mb := KF.below (below_drew (Below.refl _ _))
        have TD := Lib.hid ht1
        clear hg1 ht1
        have hd41 : decide ((1024 : Int) < 1025) = true := by decide
        go_wp2
        refine wp_region_still_tail 8 (by kernel_rfl) (by kernel_rfl) ?_
        simp only [List.take_succ_cons, List.take_zero, List.drop_succ_cons, List.drop_zero]
        change wpStill _ _ w1.drew _ _ _
        obtain ⟨W2, hW2⟩ : ∃ W2, w1.drew = W2 := ⟨_, rfl⟩
        rw [hW2] at own2 hc3 kF ⊢
        have HW2 := Lib.hid hW2
        clear hW2 hcc0 hcc1 hlen1 hlen hc0 hc1 hlook hown hc hown1 hc2
        have hcc0 := blk_cell hc3 0; have hcc1 := blk_cell hc3 1
        repeat still_step
        refine wpStill_nil ?_
        change wpList _ _ _ _ _ w1.drew
        rw [HW2.out]
        have wft : (Lit.int .u64 top).wf = true := by
          have e1 : IntKind.u64.min = 0 := by decide
          have e2 : IntKind.u64.max = 18446744073709551615 := by decide
          simp only [Lit.wf, e1, e2, Bool.and_eq_true, decide_eq_true_eq]; omega
        have hkeyt := keyOf_int_mk Try.underlying49 wft
        have hD2 : MapIs _ (khash S h) := HD1.out.del TD.out HIN1.out HMEM.out (by have := HSZ.out; rw [HD1.out.size] at this; have := HLK.out; omega)
        have HD2 := Lib.hid hD2
        have kF2 := Lib.hid ((KF.grown (kb := kb) HG1.out).trans kF)
        have hkb2 := (Array.getElem?_eq_some_iff.1 hc3).1
        clear hD2 hcc0 hcc1 kF
        go_wp2_with (first
          | (at_delete; refine wpList_delete_own _ rfl _ _ 106 49 rfl 3 law49 Try.underlying106 _ mb _ _ rfl own2 (.int .u64 top) (.int .u64 top) rfl hkeyt ?_; intro w3 own3 turn3; have hg3 := turn3.grown; have hc4 := (hg3.block kb hkb2 (by simp [hne])).trans hc3; have hcc0 := blk_cell hc4 0; have hcc1 := blk_cell hc4 1; have hlen3 := fun ty => own3.len Try.underlying106 ty; rw [HD2.out.size, HLK.out, show ((1024 : Nat) : Int) = 1024 from rfl] at hlen3; have HG3 := Lib.hid hg3; clear turn3 hg3;
             have hmap3 : KMap w3 mb (khash S h) := ⟨_, by rw [← HD2.out.size]; exact ownsMap_tight own3, HD2.out⟩; have C := greatest_u kb mb top (khash S h) w3 hc4 hmap3 HGD.out.2.2; have HM3 := Lib.hid hmap3; have hmb3 := own3.lt; clear hmap3)
          | (go_at_call 88; refine C.mono ?_; rintro e w4 ⟨m, rfl, hx, hin, hb2⟩; clear C; have hkb1 := (Array.getElem?_eq_some_iff.1 hc4).1; have hc5 := (hb2.block kb hkb1).trans hc4; have hcd0 := blk_cell hc5 0; have hcd1 := blk_cell hc5 1; have hfd := blk_frozen hc5 1; have HIN := Lib.hid hin; have HX := Lib.hid hx; have HB2 := Lib.hid hb2; clear hin hx hb2)
          | go_in)
        go_end0
        exact ⟨rfl, KM.topped hne (HM3.out.block (HB2.out.block mb hmb3)) HGD.out hc5 (greatest_in HGD.out HLK.out HX.out HIN.out) HX.out, ((kF2.out.trans (KF.grown HG3.out)).trans (KF.below HB2.out)).trans (KF.set 1 _)⟩
    · have hlt : S.length < 1024 := by omega
      have hz1 : decide ((S.length : Int) = 1024) = false := decide_eq_false (by omega)
      have hz2 : decide ((1024 : Int) < ((kins h S).length : Int)) = false := decide_eq_false (by omega)
      have E := Lib.hid (khash_new hA hlt hm)
      have hgd := kgood_khash hkm.good h0 (h := h)
      rw [E.out] at hgd
      have HGD := Lib.hid hgd
      have HD1 := Lib.hid hD1; have HSZ := Lib.hid hD1.size
      clear hA hL hr hm hD hkm htop hD1 hkl hgd
      go_enter Try.func71, Try.ntmps71
      go_upto_if 41 with (first
        | (at_mapUpdate; refine wpList_mapUpdate_own _ rfl _ _ _ 106 rfl 49 3 law49 Try.underlying106 _ mb S.length D rfl hown (by have : maxLen = 9223372036854775807 := rfl; omega) _ _ (.int .u64 h) rfl rfl hkey kone [] hval ?_; intro w1 hown1 hg1; have hc2 := (hg1.block kb hkb (by simp [hne])).trans hc; have hcc0 := blk_cell hc2 0; have hcc1 := blk_cell hc2 1; have hlen1 := fun ty => hown1.len Try.underlying106 ty; rw [HSZ.out] at hlen1)
        | go_in)
      have hmap1 : KMap w1 mb (kins h S) := ⟨_, by rw [← HD1.out.size]; exact ownsMap_tight hown1, HD1.out⟩
      have HM1 := Lib.hid hmap1; have HG1 := Lib.hid hg1
      have hmb1 := hown1.lt
      by_cases hq : (kins h S).length = 1024
      · rw [hq, show ((1024 : Nat) : Int) = 1024 from rfl] at hlen1
        have C := greatest_u kb mb top (kins h S) w1 hc2 hmap1 HGD.out.2.2
        have HQ := Lib.hid hq
        clear hmap1 hg1 hq
        go_wp2_with (go_at_call 88; refine C.mono ?_; rintro e w2 ⟨m, rfl, hx, hin, hb2⟩; clear C; have hkb1 := (Array.getElem?_eq_some_iff.1 hc2).1; have hc3 := (hb2.block kb hkb1).trans hc2; have hcd0 := blk_cell hc3 0; have hcd1 := blk_cell hc3 1; have hfd := blk_frozen hc3 1; have HIN := Lib.hid hin; have HX := Lib.hid hx; have HB2 := Lib.hid hb2; clear hin hx hb2)
        go_end0
        exact ⟨rfl, by rw [E.out]; exact KM.topped hne (HM1.out.block (HB2.out.block mb hmb1)) HGD.out hc3 (greatest_in HGD.out HQ.out HX.out HIN.out) HX.out, ((KF.grown HG1.out).trans (KF.below HB2.out)).trans (KF.set 1 _)⟩
      · have hz3 : (((kins h S).length : Int) == 1024) = false := beq_eq_false_iff_ne.mpr (by omega)
        have HQ := Lib.hid hq
        clear hmap1 hg1 hq
        go_wp2
        go_end0
        exact ⟨rfl, by rw [E.out]; exact ⟨hne, HM1.out, HGD.out, ⟨top, hc2, fun c => absurd c HQ.out⟩⟩, KF.grown HG1.out⟩
end Go.Proofs.Ytofgcacahfdjdaa
namespace Go.Proofs.Ytofgcacahfdjdaa
set_option linter.unusedVariables false
set_option linter.unusedSimpArgs false
open Go.RowKit Go.Maps Go.Proofs.YtofgcacahfdjdaaW.PrintWords Go.Proofs.Ytofgcacahfdjdaa.Pure
theorem nums_u (A : Option Addr) (n c : Nat) (l : List Int) (w : World) (h : ReadsInt w .u64 A n l) (hb : n * 8 ≤ 140737488355328) :
    Calls Try.prog 18 #[.slice A n c] w fun e w' => ∃ v, e = .returned v ∧ w'.ownsRow w.heap.size 49 1 v l.length (nums .u64 l) ∧ Below w.heap.size w w' := by
  have h0 : w.ownsRow w.heap.size 49 1 (.slice none 0 0) ([] : List Int).length (nums .u64 []) := World.ownsRow_nil w _ _ _
  have H := Lib.hid h
  clear h
  go_enter Try.func18, Try.ntmps18
  go_wp2_with ((with_reducible refine gate_builtin (b := .append) (xs := #[.const (.slice none 0 0), .tmp 3]) rfl ?_); at_builtin; refine print_append_row (w0 := w) w.heap.size rfl (.const (.slice none 0 0)) (.tmp 3) 39 49 .u64 8 rfl Try.underlying39 info49 (by decide) (.slice none 0 0) [] l A n c rfl rfl h0 H.out (Below.refl _ _) (Nat.le_refl _) (by simpa using hb) ?_; intro v1 w1 ho hb1 hg hat)
  go_ret
  exact ⟨_, rfl, by simpa using ho, hb1⟩
/-- What Check tells. -/
def KOk (l : List Int) : Prop := Asc l ∧ l.length ≤ 1024
theorem rd_nat {l : List Int} {j : Nat} (h : j < l.length) : rd l (j : Int) = l[j] := by
  simp [rd, List.getD, List.getElem?_eq_getElem h]
theorem asc_steps {l : List Int} (h : ∀ j, 1 ≤ j → j < l.length → rd l ((j : Int) - 1) < rd l j) : Asc l := by
  have step : ∀ (d i : Nat), i + d + 1 < l.length → rd l (i : Int) < rd l ((i + d + 1 : Nat) : Int) := by
    intro d
    induction d with
    | zero => intro i hi; have := h (i + 1) (by omega) hi; rwa [show (((i + 1 : Nat) : Int) - 1) = (i : Int) by omega] at this
    | succ d ih =>
      intro i hi
      have h1 := ih i (by omega)
      have h2 := h (i + (d + 1) + 1) (by omega) hi
      rw [show (((i + (d + 1) + 1 : Nat) : Int) - 1) = ((i + d + 1 : Nat) : Int) by omega] at h2
      omega
  rw [show Asc l = l.Pairwise (· < ·) from rfl, List.pairwise_iff_getElem]
  intro i j hi hj hij
  have := step (j - i - 1) i (by omega)
  rw [show i + (j - i - 1) + 1 = j by omega, rd_nat hi, rd_nat hj] at this
  exact this
theorem asc_at {l : List Int} (h : Asc l) {i j : Nat} (hij : i < j) (hj : j < l.length) : rd l (i : Int) < rd l (j : Int) := by
  rw [rd_nat (show i < l.length by omega), rd_nat hj]
  exact List.pairwise_iff_getElem.1 h i j (by omega) hj hij
end Go.Proofs.Ytofgcacahfdjdaa
namespace Go.Proofs.Ytofgcacahfdjdaa
set_option linter.unusedVariables false
set_option linter.unusedSimpArgs false
open Go.RowKit Go.Maps Go.Proofs.YtofgcacahfdjdaaW.PrintWords Go.Proofs.Ytofgcacahfdjdaa.Pure
theorem KM.drewN {w : World} {kb mb : Nat} {S : List Int} (h : KM w kb mb S) (n : Nat) : KM (w.drewN n) kb mb S := h.block rfl rfl
theorem KF.drewN (w : World) (kb mb n : Nat) : KF w (w.drewN n) kb mb := ⟨rfl, rfl, rfl, Nat.le_refl _, fun _ _ _ _ => rfl⟩
end Go.Proofs.Ytofgcacahfdjdaa
namespace Go.Proofs.Ytofgcacahfdjdaa
set_option linter.unusedVariables false
set_option linter.unusedSimpArgs false
open Go.RowKit Go.Maps Go.Proofs.YtofgcacahfdjdaaW.PrintWords Go.Proofs.YtofgcacahfdjdaaW.PrintLast Go.Proofs.YtofgcacahfdjdaaW.PrintMore Go.Proofs.Ytofgcacahfdjdaa.Pure Go.Proofs.Ytofgcacahfdjdaa.Q
theorem C_of_own {w : World} {base : Nat} {v : Value} {l : List Int} (h : w.ownsRow base 49 1 v l.length (nums .u64 l)) : ∃ A c, v = .slice A l.length c ∧ l.length ≤ c ∧ Kd.C (Kd.int .u64) w A l.length l := by
  have := Kd.R_reads (Kd.R_of_own (α := Int) (enc := Value.int .u64) (h1 := fun _ => rfl) (ok := fun _ => True) h (fun _ _ => trivial))
  exact this
theorem dist_u (kb mb : Nat) (S : List Int) (w : World) (h : KM w kb mb S) (k : Nat) (r : Int) (hf : kmv_Distinct.f k S = some r) :
    Calls Try.prog 52 #[.pointer (some ⟨kb, 0, none⟩)] w fun e w' => e = .returned (.int .u64 r) ∧ Below w.heap.size w w' := by
  have C := hashes_u kb mb S w h
  have HF := Lib.hid hf
  clear h hf
  go_enter Try.func52, Try.ntmps52
  go_wp2_with (first
    | (go_at_call 53; refine C.mono ?_; rintro e w1 ⟨v, rfl, ho, hb⟩; clear C; obtain ⟨A, c, rfl, hc, hC⟩ := C_of_own ho; have C2 := kmv_Distinct.calls k A c S r w1 hC hc HF.out; have HB := Lib.hid hb; clear ho hb hC)
    | (go_at_call 73; refine C2.mono ?_; rintro e w2 ⟨rfl, hb2⟩; clear C2))
  go_ret
  exact ⟨rfl, HB.out.trans (hb2.mono HB.out.size)⟩
theorem add_u (kb mb : Nat) (S : List Int) (s : ByteArray) (w : World) (hk : KM w kb mb S) (k : Nat) (r : Int) (hf : fnv_Of.f k s = some r) (hr : 0 ≤ r ∧ r < 18446744073709551616) :
    Calls Try.prog 51 #[.pointer (some ⟨kb, 0, none⟩), .string s] w fun e w' => e = .returned (.tuple #[]) ∧ KM w' kb mb (khash S r) ∧ KF w w' kb mb := by
  have C := fnv_Of.calls k s r w hf
  have HK := Lib.hid hk
  clear hk hf
  go_enter Try.func51, Try.ntmps51
  go_wp2_with (first
    | (go_at_call 72; refine C.mono ?_; rintro e w1 ⟨rfl, hd⟩; clear C; have hb := hd.below; have C2 := hash_u kb mb S r hr w1 (HK.out.block (hb.block kb (Array.getElem?_eq_some_iff.1 HK.out.cells.choose_spec.1).1) (hb.block mb HK.out.map.lt)); have HB := Lib.hid hb; clear hb hd)
    | (go_at_call 71; refine C2.mono ?_; rintro e w2 ⟨rfl, h2, hF⟩; clear C2))
  go_end0
  exact ⟨rfl, h2, (KF.below HB.out).trans hF⟩
end Go.Proofs.Ytofgcacahfdjdaa
namespace Go.Proofs.Ytofgcacahfdjdaa
set_option linter.unusedVariables false
set_option linter.unusedSimpArgs false
open Go.RowKit Go.Maps Go.Proofs.YtofgcacahfdjdaaW.PrintWords Go.Proofs.YtofgcacahfdjdaaW.PrintLast Go.Proofs.YtofgcacahfdjdaaW.PrintMore Go.Proofs.Ytofgcacahfdjdaa.Pure Go.Proofs.Ytofgcacahfdjdaa.Q
theorem KF.belowOf {w0 w w' : World} {kb mb : Nat} (h : KF w w' kb mb) (hb : Below w0.heap.size w0 w) (h1 : w0.heap.size ≤ kb) (h2 : w0.heap.size ≤ mb) : Below w0.heap.size w0 w' :=
  ⟨h.1.trans hb.os, h.2.1.trans hb.tape, h.2.2.1.trans hb.output, Nat.le_trans hb.size h.2.2.2.1, fun i hi => (h.2.2.2.2 i (Nat.lt_of_lt_of_le hi hb.size) (by omega) (by omega)).trans (hb.block i hi)⟩
theorem awake_u (w : World) : Calls Try.prog 24 #[] w fun e w' => e = .returned (.bool true) ∧ Below w.heap.size w w' := by
  have f1 : fnv_Of.f 10 ⟨#[97]⟩ = some 12638187200555641996 := by decide +kernel
  have f2 : fnv_Of.f 10 ⟨#[98]⟩ = some 12638190499090526629 := by decide +kernel
  have s1 : khash [] 12638187200555641996 = [12638187200555641996] := by decide +kernel
  have s2 : khash [12638187200555641996] 12638187200555641996 = [12638187200555641996] := by decide +kernel
  have s3 : khash [12638187200555641996] 12638190499090526629 = [12638187200555641996, 12638190499090526629] := by decide +kernel
  have f3 : kmv_Distinct.f 10 [12638187200555641996, 12638190499090526629] = some 2 := by decide +kernel
  have F1 := Lib.hid f1; have F2 := Lib.hid f2; have F3 := Lib.hid f3; have S1 := Lib.hid s1; have S2 := Lib.hid s2; have S3 := Lib.hid s3
  clear f1 f2 f3 s1 s2 s3
  go_enter Try.func24, Try.ntmps24
  go_wp2_with (first
    | (go_at_call 50; refine (new_u w).mono ?_; rintro e w1 ⟨kb, mb, rfl, hk1, l1, l2, b1⟩)
    | (go_at_call 51; refine (add_u kb mb _ _ _ hk1 10 _ F1.out (by omega)).mono ?_; rintro e w2 ⟨rfl, hk2, hf⟩; rw [S1.out] at hk2; have b2 := hf.belowOf b1 l1 l2; clear hk1 b1 hf)
    | (go_at_call 51; refine (add_u kb mb _ _ _ hk2 10 _ F1.out (by omega)).mono ?_; rintro e w3 ⟨rfl, hk3, hf⟩; rw [S2.out] at hk3; have b3 := hf.belowOf b2 l1 l2; clear hk2 b2 hf)
    | (go_at_call 51; refine (add_u kb mb _ _ _ hk3 10 _ F2.out (by omega)).mono ?_; rintro e w4 ⟨rfl, hk4, hf⟩; rw [S3.out] at hk4; have b4 := hf.belowOf b3 l1 l2; clear hk3 b3 hf)
    | (go_at_call 52; refine (dist_u kb mb _ _ hk4 10 2 F3.out).mono ?_; rintro e w5 ⟨rfl, hb⟩; have b5 := b4.trans (hb.mono b4.size); have hk5 := hk4.block (hb.block kb (Array.getElem?_eq_some_iff.1 hk4.cells.choose_spec.1).1) (hb.block mb hk4.map.lt); clear hk4 b4 hb)
    | (go_at_call 53; refine (hashes_u kb mb _ _ hk5).mono ?_; rintro e w6 ⟨v, rfl, ho, hb⟩; have b6 := b5.trans (hb.mono b5.size); clear hk5 b5 hb; obtain ⟨A, c, rfl, hc, hC⟩ := C_of_own ho; clear ho hC))
  go_ret
  exact ⟨rfl, b6⟩
end Go.Proofs.Ytofgcacahfdjdaa
namespace Go.Proofs.Ytofgcacahfdjdaa
set_option linter.unusedVariables false
set_option linter.unusedSimpArgs false
open Go.RowKit Go.Maps Go.Proofs.YtofgcacahfdjdaaW.PrintWords Go.Proofs.YtofgcacahfdjdaaW.PrintLast Go.Proofs.YtofgcacahfdjdaaW.PrintMore Go.Proofs.Ytofgcacahfdjdaa.Pure Go.Proofs.Ytofgcacahfdjdaa.Q
instance (l : List Int) : Decidable (KOk l) := by unfold KOk; infer_instance
theorem refCheck_go (l : List Int) (hL : l.length ≤ 4611686018427387904) : ∀ (n i : Nat), l.length + 1 - i = n → 1 ≤ i → (∀ j, 1 ≤ j → j < i → j < l.length → rd l ((j : Int) - 1) < rd l j) →
    varveref08_Check.l0 (n + 1) l (i : Int) = some (decide (KOk l)) := by
  intro n
  induction n with
  | zero =>
    intro i h1 h2 h3
    rw [varveref08_Check.l0, if_neg (by omega)]
    congr 1
    refine decide_eq_decide.2 ⟨fun c => ⟨asc_steps fun j a b => h3 j a (by omega) b, by omega⟩, fun c => by have := c.2; omega⟩
  | succ n ih =>
    intro i h1 h2 h3
    by_cases hi : i < l.length
    · have w1 : wrap64 ((i : Int) - 1) = (i : Int) - 1 := by unfold wrap64; omega
      have w2 : wrap64 ((i : Int) + 1) = ((i + 1 : Nat) : Int) := by unfold wrap64; omega
      rw [varveref08_Check.l0, if_pos (by omega), if_pos (by omega), w1, if_pos (by omega), if_pos (by omega), w2]
      by_cases hp : rd l (i : Int) ≤ rd l ((i : Int) - 1)
      · rw [if_pos hp]
        congr 1
        refine (decide_eq_false fun c => ?_).symm
        have := asc_at c.1 (show i - 1 < i by omega) hi
        rw [show ((i - 1 : Nat) : Int) = (i : Int) - 1 by omega] at this
        omega
      · rw [if_neg hp]
        refine ih (i + 1) (by omega) (by omega) fun j a b c => ?_
        rcases Nat.lt_or_ge j i with d | d
        · exact h3 j a d c
        · obtain rfl : j = i := by omega
          omega
    · rw [varveref08_Check.l0, if_neg (by omega)]
      congr 1
      refine decide_eq_decide.2 ⟨fun c => ⟨asc_steps fun j a b => h3 j a (by omega) b, by omega⟩, fun c => by have := c.2; omega⟩
theorem refCheck_all (l : List Int) (hL : l.length ≤ 4611686018427387904) : varveref08_Check.f (l.length + 1) l = some (decide (KOk l)) := by
  unfold varveref08_Check.f
  exact refCheck_go l hL l.length 1 (by omega) (Nat.le_refl _) fun j a b _ => by omega
end Go.Proofs.Ytofgcacahfdjdaa
namespace Go.Proofs.Ytofgcacahfdjdaa
set_option linter.unusedVariables false
set_option linter.unusedSimpArgs false
open Go.RowKit Go.Maps Go.Proofs.YtofgcacahfdjdaaW.PrintWords Go.Proofs.YtofgcacahfdjdaaW.PrintLast Go.Proofs.YtofgcacahfdjdaaW.PrintMore Go.Proofs.Ytofgcacahfdjdaa.Pure Go.Proofs.Ytofgcacahfdjdaa.Q
/-- The Kmv's that the call made, by their blocks: unlike ones, and nothing that was there before has changed. -/
def KS (w0 W : World) (m : List (Nat × Nat × List Int)) : Prop :=
  (∀ p ∈ m, KM W p.1 p.2.1 p.2.2 ∧ w0.heap.size ≤ p.1 ∧ w0.heap.size ≤ p.2.1) ∧
  (∀ (i j : Nat) (p q : Nat × Nat × List Int), i ≠ j → m[i]? = some p → m[j]? = some q → p.1 ≠ q.1 ∧ p.1 ≠ q.2.1 ∧ p.2.1 ≠ q.1 ∧ p.2.1 ≠ q.2.1) ∧ Below w0.heap.size w0 W
theorem KM.lt {w : World} {kb mb : Nat} {S : List Int} (h : KM w kb mb S) : kb < w.heap.size ∧ mb < w.heap.size := by
  obtain ⟨t, e, _⟩ := h.cells
  exact ⟨(Array.getElem?_eq_some_iff.1 e).1, h.map.lt⟩
theorem KM.below {w w' : World} {kb mb : Nat} {S : List Int} (h : KM w kb mb S) (hb : Below w.heap.size w w') : KM w' kb mb S :=
  h.block (hb.block kb h.lt.1) (hb.block mb h.lt.2)
theorem KM.kf {w w' : World} {kb mb k m : Nat} {S : List Int} (h : KM w kb mb S) (hf : KF w w' k m) (h1 : kb ≠ k) (h2 : kb ≠ m) (h3 : mb ≠ k) (h4 : mb ≠ m) : KM w' kb mb S :=
  h.block (hf.2.2.2.2 kb h.lt.1 h1 h2) (hf.2.2.2.2 mb h.lt.2 h3 h4)
theorem KS.nil (w : World) : KS w w [] := ⟨fun p hp => by simp at hp, fun i j p q _ h => by simp at h, Below.refl _ _⟩
theorem KS.bel {w0 W : World} {m : List (Nat × Nat × List Int)} (h : KS w0 W m) : Below w0.heap.size w0 W := h.2.2
theorem KS.at_ {w0 W : World} {m : List (Nat × Nat × List Int)} (h : KS w0 W m) (i : Nat) {k b : Nat} {s : List Int} (hi : m[i]? = some (k, b, s)) : KM W k b s ∧ w0.heap.size ≤ k ∧ w0.heap.size ≤ b :=
  h.1 _ (List.mem_of_getElem? hi)
theorem KS.below {w0 W W' : World} {m : List (Nat × Nat × List Int)} (h : KS w0 W m) (hb : Below W.heap.size W W') : KS w0 W' m :=
  ⟨fun p hp => ⟨(h.1 p hp).1.below hb, (h.1 p hp).2⟩, h.2.1, h.2.2.trans (hb.mono h.2.2.size)⟩
theorem KS.drawn {w0 W W' : World} {m : List (Nat × Nat × List Int)} (h : KS w0 W m) (hb : Drawn0 W W') : KS w0 W' m := h.below hb.below
theorem KS.more {w0 W W' : World} {m : List (Nat × Nat × List Int)} (h : KS w0 W m) {k b : Nat} {s : List Int} (hb : Below W.heap.size W W') (hg : KM W' k b s) (hk : W.heap.size ≤ k) (hm : W.heap.size ≤ b) : KS w0 W' (m ++ [(k, b, s)]) := by
  have hB := h.below hb
  refine ⟨fun p hp => ?_, fun i j p q hij hp hq => ?_, hB.2.2⟩
  · rcases List.mem_append.1 hp with hp | hp
    · exact hB.1 p hp
    · rw [List.mem_singleton] at hp
      subst hp
      exact ⟨hg, Nat.le_trans h.2.2.size hk, Nat.le_trans h.2.2.size hm⟩
  · have old : ∀ (i : Nat) (p : Nat × Nat × List Int), (m ++ [(k, b, s)])[i]? = some p → (m[i]? = some p ∧ i < m.length) ∨ (i = m.length ∧ p = (k, b, s)) := fun i p hp => by
      rcases Nat.lt_or_ge i m.length with c | c
      · rw [List.getElem?_append_left c] at hp; exact .inl ⟨hp, c⟩
      · rw [List.getElem?_append_right c] at hp
        rcases Nat.lt_or_ge m.length i with d | d
        · rw [List.getElem?_eq_none (by simp; omega)] at hp; cases hp
        · obtain rfl : i = m.length := by omega
          rw [Nat.sub_self] at hp
          exact .inr ⟨rfl, (Option.some.inj hp).symm⟩
    rcases old i p hp with ⟨hp, hi⟩ | ⟨hi, rfl⟩ <;> rcases old j q hq with ⟨hq, hj⟩ | ⟨hj, rfl⟩
    · exact h.2.1 i j p q hij hp hq
    · have := (h.1 p (List.mem_of_getElem? hp)).1.lt
      simp only
      omega
    · have := (h.1 q (List.mem_of_getElem? hq)).1.lt
      simp only
      omega
    · omega
theorem KS.put {w0 W W' : World} {m : List (Nat × Nat × List Int)} (h : KS w0 W m) (i : Nat) {k b : Nat} {s s' : List Int} (hi : m[i]? = some (k, b, s)) (hk : KF W W' k b) (hg : KM W' k b s') : KS w0 W' (m.set i (k, b, s')) := by
  have hlt : i < m.length := (List.getElem?_eq_some_iff.1 hi).1
  have hb : Below w0.heap.size w0 W' := hk.belowOf h.bel (h.at_ i hi).2.1 (h.at_ i hi).2.2
  have old : ∀ (j : Nat) (p : Nat × Nat × List Int), (m.set i (k, b, s'))[j]? = some p → (i = j ∧ p = (k, b, s')) ∨ (i ≠ j ∧ m[j]? = some p) := fun j p hp => by
    rw [List.getElem?_set] at hp
    by_cases c : i = j
    · rw [if_pos c, if_pos (by omega)] at hp
      exact .inl ⟨c, (Option.some.inj hp).symm⟩
    · rw [if_neg c] at hp
      exact .inr ⟨c, hp⟩
  refine ⟨fun p hp => ?_, fun j l p q hjl hp hq => ?_, hb⟩
  · obtain ⟨j, hj⟩ := List.getElem?_of_mem hp
    rcases old j p hj with ⟨_, rfl⟩ | ⟨c, hj⟩
    · exact ⟨hg, (h.at_ i hi).2⟩
    · have hm := h.1 p (List.mem_of_getElem? hj)
      have := h.2.1 j i p _ (Ne.symm c) hj hi
      exact ⟨hm.1.kf hk this.1 this.2.1 this.2.2.1 this.2.2.2, hm.2⟩
  · rcases old j p hp with ⟨hj, rfl⟩ | ⟨cj, hp⟩ <;> rcases old l q hq with ⟨hl, rfl⟩ | ⟨cl, hq⟩
    · omega
    · exact h.2.1 i l (k, b, s) q cl hi hq
    · exact h.2.1 j i p (k, b, s) (Ne.symm cj) hp hi
    · exact h.2.1 j l p q hjl hp hq
theorem KS.new {w0 W : World} {m : List (Nat × Nat × List Int)} (h : KS w0 W m) :
    Calls Try.prog 50 #[] W fun e w' => ∃ k b, e = .returned (.pointer (some ⟨k, 0, none⟩)) ∧ KS w0 w' (m ++ [(k, b, [])]) ∧ Below W.heap.size W w' :=
  (new_u W).mono fun _ _ ⟨k, b, he, hk, l1, l2, hb⟩ => ⟨k, b, he, h.more hb hk l1 l2, hb⟩
theorem KS.add {w0 W : World} {m : List (Nat × Nat × List Int)} (h : KS w0 W m) (i : Nat) {k b : Nat} {s : List Int} (hi : m[i]? = some (k, b, s)) {t : ByteArray} {n : Nat} {v : Int} (hf : fnv_Of.f n t = some v) (hv : 0 ≤ v ∧ v < 18446744073709551616) :
    Calls Try.prog 51 #[.pointer (some ⟨k, 0, none⟩), .string t] W fun e w' => e = .returned (.tuple #[]) ∧ KS w0 w' (m.set i (k, b, khash s v)) ∧ KF W w' k b :=
  (add_u k b s t W (h.at_ i hi).1 n v hf hv).mono fun _ _ ⟨he, hk, hf⟩ => ⟨he, h.put i hi hf hk, hf⟩
end Go.Proofs.Ytofgcacahfdjdaa
namespace Go.Proofs.Ytofgcacahfdjdaa
set_option linter.unusedVariables false
set_option linter.unusedSimpArgs false
open Go.RowKit Go.Maps Go.Proofs.YtofgcacahfdjdaaW.PrintWords Go.Proofs.YtofgcacahfdjdaaW.PrintLast Go.Proofs.YtofgcacahfdjdaaW.PrintMore Go.Proofs.Ytofgcacahfdjdaa.Pure Go.Proofs.Ytofgcacahfdjdaa.Q
/-- How a list of numbers is read. -/
def Pure.WU (l : List Int) : Prop := l.length * 8 ≤ 140737488351232 ∧ l.length ≤ 9223372036854775807 ∧ ∀ x ∈ l, (Lit.int .u64 x).wf = true
theorem opens39 : Opens Try.prog 39 (Kd.slice 49 (Kd.int .u64)) Pure.WU := opens_slice Try.underlying39 (by kernel_rfl) (by kernel_rfl) (opens_int Try.underlying49)
theorem U_of {x : Int} (h : (Lit.int .u64 x).wf = true) : 0 ≤ x ∧ x < 18446744073709551616 := by
  have e1 : IntKind.u64.min = 0 := by decide
  have e2 : IntKind.u64.max = 18446744073709551615 := by decide
  simp only [Lit.wf, e1, e2, Bool.and_eq_true, decide_eq_true_eq] at h; omega
theorem Pure.WU.num {l : List Int} (h : Pure.WU l) : ∀ x ∈ l, 0 ≤ x ∧ x < 18446744073709551616 := fun x hx => U_of (h.2.2 x hx)
theorem Pure.WU.len {l : List Int} (h : Pure.WU l) : l.length ≤ 17592186043904 := by have := h.1; omega
theorem KGood.of {l : List Int} (h : Pure.WU l) (hk : KOk l) : KGood l := ⟨hk.1, hk.2, h.num⟩
theorem Same_go (l m : List Int) (hl : l.length = m.length) (hL : l.length ≤ 17592186043904) : ∀ (n i : Nat), l.length - i = n → (∀ j : Nat, j < i → j < l.length → rd l (j : Int) = rd m (j : Int)) → varvelaw00_SameNums.l0 (n + 1) l m (i : Int) = some (decide (l = m)) := by
  intro n
  induction n with
  | zero =>
    intro i h1 h2
    rw [varvelaw00_SameNums.l0, if_neg (by omega)]
    congr 1
    refine (decide_eq_true (List.ext_getElem hl fun j a b => ?_)).symm
    have := h2 j (by omega) a
    rwa [rd_nat a, rd_nat b] at this
  | succ n ih =>
    intro i h1 h2
    have w2 : wrap64 ((i : Int) + 1) = ((i + 1 : Nat) : Int) := by unfold wrap64; omega
    rw [varvelaw00_SameNums.l0, if_pos (by omega), if_pos (by omega), if_pos (by omega), w2]
    by_cases e : rd l (i : Int) = rd m (i : Int)
    · rw [if_pos e]
      refine ih (i + 1) (by omega) fun j a b => ?_
      rcases Nat.lt_or_ge j i with d | d
      · exact h2 j d b
      · obtain rfl : j = i := by omega
        exact e
    · rw [if_neg e]
      congr 1
      exact (decide_eq_false fun c : l = m => e (by rw [c])).symm
theorem Same_all (l m : List Int) (hL : l.length ≤ 17592186043904) : varvelaw00_SameNums.f (l.length + 1) l m = some (decide (l = m)) := by
  unfold varvelaw00_SameNums.f
  by_cases h : l.length = m.length
  · rw [if_pos (by omega)]
    exact Same_go l m h hL l.length 0 (by omega) (fun j a => by omega)
  · rw [if_neg (by omega)]
    congr 1
    exact (decide_eq_false fun c : l = m => h (by rw [c])).symm
theorem nums_c {w W : World} {A : Option Addr} {c : Nat} {l : List Int} (hw : Pure.WU l) (hC : Kd.C (Kd.int .u64) w A l.length l) (hb : Below w.heap.size w W) :
    Calls Try.prog 18 #[.slice A l.length c] W fun e w' => ∃ A' c', e = .returned (.slice A' l.length c') ∧ l.length ≤ c' ∧ Kd.C (Kd.int .u64) w' A' l.length l ∧ w'.ownsRow W.heap.size 49 1 (.slice A' l.length c') l.length (nums .u64 l) ∧ Below W.heap.size W w' :=
  (nums_u A l.length c l W (Kd.reads_of_C (d := (0 : Int)) (Kd.C_below hC hb)) (by have := hw.1; omega)).mono fun _ _ ⟨v, he, ho, hb⟩ => by
    obtain ⟨A', c', rfl, hc, hC⟩ := C_of_own ho
    exact ⟨A', c', he, hc, hC, ho, hb⟩
theorem refCheck_c {W : World} {A : Option Addr} {c : Nat} {l : List Int} (hw : Pure.WU l) (hC : Kd.C (Kd.int .u64) W A l.length l) (hc : l.length ≤ c) :
    Calls Try.prog 19 #[.slice A l.length c] W fun e w' => e = .returned (.bool (decide (KOk l))) ∧ Below W.heap.size W w' :=
  (varveref08_Check.calls _ A c l _ W hC hc (refCheck_all l (by have := hw.len; omega))).mono fun _ _ ⟨he, hd⟩ => ⟨he, hd.below⟩
theorem same_c {W : World} {A A' : Option Addr} {c c' : Nat} {l m : List Int} (hl : l.length ≤ 17592186043904) (hC : Kd.C (Kd.int .u64) W A l.length l) (hc : l.length ≤ c) (hC' : Kd.C (Kd.int .u64) W A' m.length m) (hc' : m.length ≤ c') :
    Calls Try.prog 22 #[.slice A l.length c, .slice A' m.length c'] W fun e w' => e = .returned (.bool (decide (l = m))) ∧ Below W.heap.size W w' :=
  (varvelaw00_SameNums.calls _ A c l A' c' m _ W hC hc hC' hc' (Same_all l m hl)).mono fun _ _ ⟨he, hd⟩ => ⟨he, hd.below⟩
end Go.Proofs.Ytofgcacahfdjdaa
namespace Go.Proofs.Ytofgcacahfdjdaa
set_option linter.unusedVariables false
set_option linter.unusedSimpArgs false
open Go.RowKit Go.Proofs.YtofgcacahfdjdaaW.PrintWords Go.Proofs.YtofgcacahfdjdaaW.PrintLast Go.Proofs.YtofgcacahfdjdaaW.PrintMore Go.Proofs.Ytofgcacahfdjdaa.Pure Go.Proofs.Ytofgcacahfdjdaa.Hi Go.Proofs.Ytofgcacahfdjdaa.Vt
theorem asc_rise {l : List Int} (h : Asc l) (hu : ∀ x ∈ l, 0 ≤ x ∧ x < 18446744073709551616) : RiseL l :=
  ⟨hu, fun i hi => by rw [rd_get l (by omega : i < l.length), rd_get l hi]; exact List.pairwise_iff_getElem.1 h i (i + 1) _ _ (by omega)⟩
theorem kget_any {A : Option Addr} {c : Nat} {b : List Int} (hb : WBy b) (a : Int) {w : World} (hC : Kd.C (Kd.int .u8) w A b.length b) (hc : b.length ≤ c) :
    Calls Try.prog 20 #[.slice A b.length c, .int .i64 a] w (RisePost (riseAt b a 1024) w) := by
  have HG := Lib.hid (show Calls Try.prog 48 #[.slice A b.length c, .int .i64 a, .int .i64 1024] w (RisePost (riseAt b a 1024) w) from getRise_any hb a 1024 (by decide) hC hc hb.1)
  clear hC hc hb
  go_enter Try.func20, Try.ntmps20
  cases h0 : riseAt b a 1024 with
  | none =>
    rw [h0] at HG
    go_wp2_with (go_at_call 48; (with_reducible refine HG.out.mono ?_); rintro e w1 ⟨hb1, -, h2⟩; obtain rfl := h2 rfl; have HB := Lib.hid hb1; clear hb1 h2 HG)
    go_ret3
    exact RisePost.no rfl HB.out
  | some x =>
    obtain ⟨l, q⟩ := x
    rw [h0] at HG
    go_wp2_with (go_at_call 48; (with_reducible refine HG.out.mono ?_); rintro e w1 ⟨hb1, h2, -⟩; obtain ⟨r, rfl, hR⟩ := h2 l q rfl; have HB := Lib.hid hb1; have HR := Lib.hid hR; clear hb1 hR h2 HG)
    go_ret3
    exact ⟨HB.out, (fun l' q' e => by cases e; exact ⟨_, rfl, HR.out⟩), fun e => by cases e⟩
theorem kput_any {A : Option Addr} {c : Nat} {xs : List Int} {B : Option Addr} {d : Nat} {ls : List Int} {w : World} (hC : Kd.C (Kd.int .u8) w A xs.length xs) (hc : xs.length ≤ c) (hL : Kd.C (Kd.int .u64) w B ls.length ls) (hn : ∀ n ∈ ls, 0 ≤ n ∧ n < 18446744073709551616) (hl : xs.length + 10 * ls.length + 60 ≤ 140737488355328) :
    Calls Try.prog 17 #[.slice A xs.length c, .slice B ls.length d] w fun e w' => ∃ r, e = .returned r ∧ Kd.R (Kd.int .u8) 5 w' w.heap.size (fun _ => True) r (xs ++ encN ls.length ++ encL (diffs ls ls.length)) ∧ Below w.heap.size w w' := by
  have HP := Lib.hid (putRise_any (d := d) hC hc hL hn hl)
  clear hC hc hL hn hl
  go_enter Try.func17, Try.ntmps17
  go_wp2_with (go_at_call 47; (with_reducible refine HP.out.mono ?_); rintro e w1 ⟨r, rfl, hR, hb1⟩; have HB := Lib.hid hb1; have HR := Lib.hid hR; clear hb1 hR HP)
  go_ret
  exact ⟨_, rfl, HR.out, HB.out⟩
end Go.Proofs.Ytofgcacahfdjdaa
namespace Go.Proofs.Ytofgcacahfdjdaa.Pure
set_option linter.unusedVariables false
set_option linter.unusedSimpArgs false
open Go.RowKit Go.Maps Go.Proofs.YtofgcacahfdjdaaW.PrintWords Go.Proofs.YtofgcacahfdjdaaW.PrintLast Go.Proofs.YtofgcacahfdjdaaW.PrintMore Go.Proofs.Ytofgcacahfdjdaa.Q Go.Proofs.Ytofgcacahfdjdaa.Hi Go.Proofs.Ytofgcacahfdjdaa.Vt
theorem riseGo_len (b : List Int) : ∀ (c p : Nat) (acc l : List Int) (q : Nat), riseGo b c p acc = some (l, q) → l.length = acc.length + c := by
  intro c
  induction c with
  | zero => intro p acc l q h; rw [riseGo] at h; cases h; rfl
  | succ c ih =>
    intro p acc l q h
    rw [riseGo] at h
    split at h
    · cases h
    · split at h
      case isTrue h0 => have := ih _ _ _ _ h; rw [this, h0]; simp; omega
      case isFalse =>
        split at h
        · cases h
        · have := ih _ _ _ _ h; rw [this, List.length_append, List.length_singleton]; omega
theorem riseAt_len {b : List Int} {a : Int} {most : Nat} {l : List Int} {q : Nat} (h : riseAt b a most = some (l, q)) : l.length ≤ most := by
  unfold riseAt at h
  split at h
  · cases h
  · split at h
    · cases h
    case isFalse c => have := riseGo_len b _ _ _ _ _ h; simp at this; omega
theorem bytes_c {w W : World} {A : Option Addr} {c : Nat} {b : List Int} (hl : b.length < 140737488355328) (hC : Kd.C (Kd.int .u8) w A b.length b) (hc : b.length ≤ c) (hb : Below w.heap.size w W) :
    Calls Try.prog 9 #[.slice A b.length c] W fun e w' => ∃ A' c', e = .returned (.slice A' b.length c') ∧ b.length ≤ c' ∧ Kd.C (Kd.int .u8) w' A' b.length b ∧ Below W.heap.size W w' :=
  (varvelaw00_Bytes.calls A c b b W (Kd.C_below hC hb) hc (by unfold varvelaw00_Bytes.f; rw [List.length_nil, Nat.zero_add, if_pos hl, List.nil_append])).mono fun _ _ ⟨v, he, hR, hb⟩ => by
    obtain ⟨A', c', rfl, hc', hC'⟩ := Kd.R_reads hR
    exact ⟨A', c', he, hc', hC', hb⟩
theorem kput_c {W : World} {A B : Option Addr} {c d : Nat} {xs ls : List Int} (hC : Kd.C (Kd.int .u8) W A xs.length xs) (hc : xs.length ≤ c) (hL : Kd.C (Kd.int .u64) W B ls.length ls) (hn : ∀ n ∈ ls, 0 ≤ n ∧ n < 18446744073709551616) (hl : xs.length + 10 * ls.length + 60 ≤ 140737488355328) :
    Calls Try.prog 17 #[.slice A xs.length c, .slice B ls.length d] W fun e w' => ∃ A' c', e = .returned (.slice A' (xs ++ encN ls.length ++ encL (diffs ls ls.length)).length c') ∧ (xs ++ encN ls.length ++ encL (diffs ls ls.length)).length ≤ c' ∧ Kd.C (Kd.int .u8) w' A' (xs ++ encN ls.length ++ encL (diffs ls ls.length)).length (xs ++ encN ls.length ++ encL (diffs ls ls.length)) ∧ Below W.heap.size W w' :=
  (kput_any (d := d) hC hc hL hn hl).mono fun _ _ ⟨v, he, hR, hb⟩ => by
    obtain ⟨A', c', rfl, hc', hC'⟩ := Kd.R_reads hR
    exact ⟨A', c', he, hc', hC', hb⟩
theorem rrise_c {w W : World} {A : Option Addr} {c : Nat} {b : List Int} (hby : WBy b) (a : Int) (hC : Kd.C (Kd.int .u8) w A b.length b) (hb : Below w.heap.size w W) :
    Calls Try.prog 23 #[.pointer (some ⟨W.heap.size, 0, none⟩), .int .i64 1024] (W.alloc (.cells #[.slice A b.length c, .int .i64 a, .bool false] 29)) fun e w' => (∃ l q A' c' D d, e = .returned (.slice A' l.length c') ∧ l.length ≤ c' ∧ Kd.C (Kd.int .u64) w' A' l.length l ∧ w'.heap[W.heap.size]? = some (.cells #[.slice D b.length d, .int .i64 q, .bool (riseAt b a 1024).isNone] 29 (0, 0)) ∧ (∀ l' q', riseAt b a 1024 = some (l', q') → l = l' ∧ q = q')) ∧ Below W.heap.size W w' := by
  have hI : IsS29 w (W.alloc (.cells #[.slice A b.length c, .int .i64 a, .bool false] 29)) W.heap.size b a false := ⟨A, c, heap_alloc_new W _, hb.size, hC⟩
  have hbb : ∀ w', Below w.heap.size w w' → KeepBut (W.alloc (.cells #[.slice A b.length c, .int .i64 a, .bool false] 29)) w' W.heap.size none → Below W.heap.size W w' := fun w' h1 h2 => by
    have h3 := below_alloc (Below.refl W.heap.size W) (.cells #[.slice A b.length c, .int .i64 a, .bool false] 29)
    exact ⟨h1.os.trans hb.os.symm, h1.tape.trans hb.tape.symm, h1.output.trans hb.output.symm, Nat.le_trans h3.size h2.1, fun i hi => (h2.2 i (Nat.lt_of_lt_of_le hi h3.size) (by omega) (by simp)).trans (h3.block i hi)⟩
  obtain ⟨k, g1, g2⟩ := rrise_eq hby a 1024 (by decide)
  cases h0 : riseAt b a 1024 with
  | none =>
    obtain ⟨q, e⟩ := g2 h0
    exact (varveref04_R_Rise.calls k W.heap.size b a false 1024 [] q true w _ hI (below_alloc hb _) e).mono fun _ _ ⟨v, he, hR, hi, hb', hk'⟩ => by
      obtain ⟨A', c', rfl, hc', hC'⟩ := Kd.R_reads hR
      obtain ⟨D, d, hh, -, -⟩ := hi
      exact ⟨⟨[], q, A', c', D, d, he, hc', hC', hh, fun _ _ h => by cases h⟩, hbb _ hb' hk'⟩
  | some x =>
    obtain ⟨l, q⟩ := x
    exact (varveref04_R_Rise.calls k W.heap.size b a false 1024 l q false w _ hI (below_alloc hb _) (g1 l q h0)).mono fun _ _ ⟨v, he, hR, hi, hb', hk'⟩ => by
      obtain ⟨A', c', rfl, hc', hC'⟩ := Kd.R_reads hR
      obtain ⟨D, d, hh, -, -⟩ := hi
      exact ⟨⟨l, q, A', c', D, d, he, hc', hC', hh, fun _ _ h => by cases h; exact ⟨rfl, rfl⟩⟩, hbb _ hb' hk'⟩
set_option maxHeartbeats 4000000 in
set_option maxRecDepth 100000 in
theorem KmvBytes_not (A0 : Option Addr) (c0 : Nat) (l0 : List Int) (A1 : Option Addr) (c1 : Nat) (b1 : List Int) (at_ : Int) (w : World) (C0 : Kd.C (Kd.int .u64) w A0 l0.length l0) (m0 : l0.length ≤ c0) (w0 : WU l0) (C1 : Kd.C (Kd.int .u8) w A1 b1.length b1) (m1 : b1.length ≤ c1) (hby : WBy b1) (hl : b1.length + 10 * l0.length + 60 ≤ 140737488355328) (hk : ¬ KOk l0) :
    Calls Try.prog 6 #[.slice A0 l0.length c0, .slice A1 b1.length c1, .int .i64 at_] w fun e w' => e = .returned (.bool true) ∧ Below w.heap.size w w' := by
  have CB := fun W (hb : Below w.heap.size w W) => bytes_c (by omega) C1 m1 hb
  have CN := fun W (hb : Below w.heap.size w W) => nums_c (c := c0) w0 C0 hb
  have CP := fun W A B c d (hC : Kd.C (Kd.int .u8) W A b1.length b1) (hc : b1.length ≤ c) (hL : Kd.C (Kd.int .u64) W B l0.length l0) => kput_c (d := d) hC hc hL w0.num hl
  have RK := fun W (hb : Below w.heap.size w W) => refCheck_c w0 (Kd.C_below C0 hb) m0
  rw [decide_eq_false hk] at RK
  have hb0 := Below.refl w.heap.size w
  have HG := Lib.hid (fun W A c (hC : Kd.C (Kd.int .u8) W A b1.length b1) (hc : b1.length ≤ c) => kget_any hby at_ hC hc)
  have HQ := Lib.hid (fun W (hb : Below w.heap.size w W) => rrise_c (c := c1) hby at_ C1 hb)
  have HLN := Lib.hid (fun l q (e : riseAt b1 at_ 1024 = some (l, q)) => (riseAt_len e : l.length ≤ 1024))
  clear C0 m0 w0 C1 m1 hl hby
  cases hr : riseAt b1 at_ 1024 with
  | none =>
   rw [hr] at HG HQ
   go_enter Try.func6, Try.ntmps6
   go_wp2_with (first
     | (go_at_call 9; refine (CB _ hb0).mono ?_; rintro e w1 ⟨A2, c2, rfl, lc2, hC2, hb⟩; have hb1 := hb0.trans (hb.mono hb0.size); clear hb0 hb)
     | (go_at_call 18; refine (CN _ hb1).mono ?_; rintro e w2 ⟨A3, c3, rfl, lc3, hC3, ho, hb⟩; have hC2' := Kd.C_below hC2 hb; have hb2 := hb1.trans (hb.mono hb1.size); clear hb1 ho hb CN hC2)
     | (go_at_call 17; refine (CP _ _ _ _ _ hC2' lc2 hC3).mono ?_; rintro e w3 ⟨A4, c4, rfl, lc4, hC4, hb⟩; have hb3 := hb2.trans (hb.mono hb2.size); clear hb2 hb CP hC2' hC3)
     | (go_at_call 19; refine (RK _ hb3).mono ?_; rintro e w4 ⟨rfl, hb⟩; have hb4 := hb3.trans (hb.mono hb3.size); clear hb3 hb RK)
     | (go_at_call 9; refine (CB _ hb4).mono ?_; rintro e w5 ⟨A5, c5, rfl, lc5, hC5, hb⟩; have hb5 := hb4.trans (hb.mono hb4.size); clear hb4 hb CB)
     | (go_at_call 20; refine (HG.out _ _ _ hC5 lc5).mono ?_; rintro e w6 ⟨hb, -, h2⟩; obtain rfl := h2 rfl; have hb6 := hb5.trans (hb.mono hb5.size); clear hb5 hb h2 hC5)
     | (go_at_call 23; refine (HQ.out _ hb6).mono ?_; rintro e w7 ⟨⟨l, q, A8, c8, D8, d8, rfl, lc8, hC8, hh8, he8⟩, hb⟩; have p2 : w7.cell? ⟨_, 2, none⟩ = some (.bool true) := blk_cell hh8 2; have hb7 := hb6.trans (hb.mono hb6.size); clear hb hb6 HQ)
     | (go_at_call 24; refine (awake_u _).mono ?_; rintro e w9 ⟨rfl, hb⟩; have hb9 := hb7.trans (hb.mono hb7.size); clear hb7 hb))
   go_ret
   exact ⟨rfl, hb9⟩
  | some x =>
   obtain ⟨l, q⟩ := x
   have hll := HLN.out l q hr
   rw [hr] at HG HQ
   go_enter Try.func6, Try.ntmps6
   go_wp2_with (first
     | (go_at_call 9; refine (CB _ hb0).mono ?_; rintro e w1 ⟨A2, c2, rfl, lc2, hC2, hb⟩; have hb1 := hb0.trans (hb.mono hb0.size); clear hb0 hb)
     | (go_at_call 18; refine (CN _ hb1).mono ?_; rintro e w2 ⟨A3, c3, rfl, lc3, hC3, ho, hb⟩; have hC2' := Kd.C_below hC2 hb; have hb2 := hb1.trans (hb.mono hb1.size); clear hb1 ho hb CN hC2)
     | (go_at_call 17; refine (CP _ _ _ _ _ hC2' lc2 hC3).mono ?_; rintro e w3 ⟨A4, c4, rfl, lc4, hC4, hb⟩; have hb3 := hb2.trans (hb.mono hb2.size); clear hb2 hb CP hC2' hC3)
     | (go_at_call 19; refine (RK _ hb3).mono ?_; rintro e w4 ⟨rfl, hb⟩; have hb4 := hb3.trans (hb.mono hb3.size); clear hb3 hb RK)
     | (go_at_call 9; refine (CB _ hb4).mono ?_; rintro e w5 ⟨A5, c5, rfl, lc5, hC5, hb⟩; have hb5 := hb4.trans (hb.mono hb4.size); clear hb4 hb CB)
     | (go_at_call 20; refine (HG.out _ _ _ hC5 lc5).mono ?_; rintro e w6 ⟨hb, h1, -⟩; obtain ⟨r, rfl, hR⟩ := h1 l q rfl; obtain ⟨A6, c6, rfl, lc6, hC6⟩ := Kd.R_reads hR; have hb6 := hb5.trans (hb.mono hb5.size); clear hb5 hb h1 hR hC5)
     | (go_at_call 23; refine (HQ.out _ hb6).mono ?_; rintro e w7 ⟨⟨l', q', A8, c8, D8, d8, rfl, lc8, hC8, hh8, he8⟩, hb⟩; obtain ⟨rfl, rfl⟩ := he8 _ _ rfl; have p2 : w7.cell? ⟨_, 2, none⟩ = some (.bool false) := blk_cell hh8 2; have hC6' := Kd.C_below hC6 hb; have hb7 := hb6.trans (hb.mono hb6.size); clear hb hb6 HQ he8 hC6)
     | (go_at_call 22; refine (same_c (by omega) hC6' lc6 hC8 lc8).mono ?_; rintro e w8 ⟨rfl, hb⟩; rw [decide_eq_true rfl]; have p1 : w8.cell? ⟨_, 1, none⟩ = some (.int .i64 _) := blk_cell (blk_below hh8 hb) 1; have hb8 := hb7.trans (hb.mono hb7.size); clear hb hb7 hC6' hC8)
     | (go_at_call 24; refine (awake_u _).mono ?_; rintro e w9 ⟨rfl, hb⟩; have hb9 := hb8.trans (hb.mono hb8.size); clear hb8 hb))
   go_ret
   exact ⟨rfl, hb9⟩
end Go.Proofs.Ytofgcacahfdjdaa.Pure
namespace Go.Proofs.Ytofgcacahfdjdaa.Pure
set_option linter.unusedVariables false
set_option linter.unusedSimpArgs false
open Go.RowKit Go.Maps Go.Proofs.YtofgcacahfdjdaaW.PrintWords Go.Proofs.YtofgcacahfdjdaaW.PrintLast Go.Proofs.YtofgcacahfdjdaaW.PrintMore Go.Proofs.Ytofgcacahfdjdaa.Q Go.Proofs.Ytofgcacahfdjdaa.Hi Go.Proofs.Ytofgcacahfdjdaa.Vt
theorem encN_byte (n : Nat) : ∀ x ∈ encN n, 0 ≤ x ∧ x < 256 := by
  induction n using Nat.strongRecOn with
  | _ n ih =>
    intro x hx
    by_cases c : n < 128
    · rw [encN_low c] at hx; simp at hx; omega
    · rw [encN_high c] at hx
      rcases List.mem_cons.1 hx with d | d
      · omega
      · exact ih (n / 128) (by omega) x d
theorem encL_byte (l : List Nat) : ∀ x ∈ encL l, 0 ≤ x ∧ x < 256 := fun x hx => by
  obtain ⟨n, _, h⟩ := List.mem_flatMap.1 hx
  exact encN_byte n x h
theorem str_c {W : World} {A : Option Addr} {c : Nat} {b : List Int} (hC : Kd.C (Kd.int .u8) W A b.length b) : (convert 22 9 (.slice A b.length c)).run Try.prog W = .ok (.string (strOfNums b)) W :=
  Kd.C_string (e := 5) (by kernel_rfl) (by kernel_rfl) (by kernel_rfl) hC
theorem strOfNums_app (a b : List Int) : strOfNums (a ++ b) = strOfNums a ++ strOfNums b := by
  apply ByteArray.ext; simp [strOfNums, ByteArray.data_append]
theorem strOfNums_size (a : List Int) : (strOfNums a).size = a.length := by simp [strOfNums, ByteArray.size]
theorem rise_c {W : World} {A : Option Addr} {c : Nat} {l : List Int} (h : RiseL l) (hn : l.length ≤ 1000000) (hC : Kd.C (Kd.int .u64) W A l.length l) (hc : l.length ≤ c) :
    Calls Try.prog 21 #[.slice A l.length c] W fun e w' => ∃ A' c', e = .returned (.slice A' (encN l.length ++ encL (diffs l l.length)).length c') ∧ (encN l.length ++ encL (diffs l l.length)).length ≤ c' ∧ Kd.C (Kd.int .u8) w' A' (encN l.length ++ encL (diffs l l.length)).length (encN l.length ++ encL (diffs l l.length)) ∧ Below W.heap.size W w' :=
  (varveref04_Rise.calls _ A c l _ W hC hc (rise_eq l h hn)).mono fun _ _ ⟨v, he, hR, hb⟩ => by
    obtain ⟨A', c', rfl, hc', hC'⟩ := Kd.R_reads hR
    exact ⟨A', c', he, hc', hC', hb⟩
set_option maxHeartbeats 4000000 in
set_option maxRecDepth 100000 in
theorem KmvBytes_ok (A0 : Option Addr) (c0 : Nat) (l0 : List Int) (A1 : Option Addr) (c1 : Nat) (b1 : List Int) (at_ : Int) (w : World) (C0 : Kd.C (Kd.int .u64) w A0 l0.length l0) (m0 : l0.length ≤ c0) (w0 : WU l0) (C1 : Kd.C (Kd.int .u8) w A1 b1.length b1) (m1 : b1.length ≤ c1) (hby : WBy b1) (hl : b1.length + 10 * l0.length + 60 ≤ 140737488355328) (hk : KOk l0) :
    Calls Try.prog 6 #[.slice A0 l0.length c0, .slice A1 b1.length c1, .int .i64 at_] w fun e w' => e = .returned (.bool true) ∧ Below w.heap.size w w' := by
  have CB := fun W (hb : Below w.heap.size w W) => bytes_c (by omega) C1 m1 hb
  have CN := fun W (hb : Below w.heap.size w W) => nums_c (c := c0) w0 C0 hb
  have CP := fun W A B c d (hC : Kd.C (Kd.int .u8) W A b1.length b1) (hc : b1.length ≤ c) (hL : Kd.C (Kd.int .u64) W B l0.length l0) => kput_c (d := d) hC hc hL w0.num hl
  have RK := fun W (hb : Below w.heap.size w W) => refCheck_c w0 (Kd.C_below C0 hb) m0
  rw [decide_eq_true hk] at RK
  obtain ⟨X, hX⟩ : ∃ X, b1 ++ encN l0.length ++ encL (diffs l0 l0.length) = X := ⟨_, rfl⟩
  obtain ⟨Y, hY⟩ : ∃ Y, encN l0.length ++ encL (diffs l0 l0.length) = Y := ⟨_, rfl⟩
  have hXY : X = b1 ++ Y := by rw [← hX, ← hY, List.append_assoc]
  simp only [hX] at CP
  have hxl : X.length ≤ 140737488355328 := by
    rw [← hX]; have h1 := encN_len l0.length (by have := hk.2; omega); have h2 := encL_len (diffs l0 l0.length) (diffs_small _ _); rw [diffs_len] at h2; simp only [List.length_append]; omega
  have hXB : WBy X := ⟨hxl, by
    rw [hXY, ← hY]; intro x hx; rcases List.mem_append.1 hx with d | d
    · exact hby.2 x d
    · rcases List.mem_append.1 d with d | d
      · exact encN_byte _ x d
      · exact encL_byte _ x d⟩
  have hrX : riseAt X (b1.length : Int) 1024 = some (l0, X.length) := by
    have h := riseAt_enc l0 b1 [] (asc_rise hk.1 w0.num) 1024 hk.2 (by have := hk.2; omega)
    rw [hY, List.append_nil, ← hXY] at h; rw [h, hXY, List.length_append]
  have GX := Lib.hid (fun W A c (hC : Kd.C (Kd.int .u8) W A X.length X) (hc : X.length ≤ c) => hrX ▸ kget_any hXB (b1.length : Int) hC hc)
  have RI := fun W (hb : Below w.heap.size w W) => rise_c (asc_rise hk.1 w0.num) (by have := hk.2; omega) (Kd.C_below C0 hb) m0
  simp only [hY] at RI
  have CS := fun W (hb : Below w.heap.size w W) => str_c (c := c1) (Kd.C_below C1 hb)
  have hcat : strOfNums b1 ++ strOfNums Y = strOfNums X := by rw [hXY, strOfNums_app]
  have hsz : (strOfNums b1).size + (strOfNums Y).size ≤ 9223372036854775807 := by rw [strOfNums_size, strOfNums_size]; rw [hXY, List.length_append] at hxl; omega
  have hsz' : ¬ ((strOfNums b1).size + (strOfNums Y).size > 9223372036854775807) := by omega
  have s4 : ∀ w, (Op.stringOp .add (strOfNums b1) (strOfNums Y)).run Try.prog w = .ok (.string (strOfNums X)) w := fun w => by rw [run_string_add_sum w _ _ hsz, hcat]
  have hl0 : l0.length ≤ 17592186043904 := by have := hk.2; omega
  clear hX hY hXY hxl hXB hrX hk
  have hb0 := Below.refl w.heap.size w
  have HG := Lib.hid (fun W A c (hC : Kd.C (Kd.int .u8) W A b1.length b1) (hc : b1.length ≤ c) => kget_any hby at_ hC hc)
  have HQ := Lib.hid (fun W (hb : Below w.heap.size w W) => rrise_c (c := c1) hby at_ C1 hb)
  have HLN := Lib.hid (fun l q (e : riseAt b1 at_ 1024 = some (l, q)) => (riseAt_len e : l.length ≤ 1024))
  have HC0 := Lib.hid C0; have HM0 := Lib.hid m0
  clear C0 m0 w0 C1 m1 hl hby
  cases hr : riseAt b1 at_ 1024 with
  | none =>
   rw [hr] at HG HQ
   go_enter Try.func6, Try.ntmps6
   go_wp2_with (first
     | (go_at_call 9; refine (CB _ hb0).mono ?_; rintro e w1 ⟨A2, c2, rfl, lc2, hC2, hb⟩; have hb1 := hb0.trans (hb.mono hb0.size); clear hb0 hb)
     | (go_at_call 18; refine (CN _ hb1).mono ?_; rintro e w2 ⟨A3, c3, rfl, lc3, hC3, ho, hb⟩; have hC2' := Kd.C_below hC2 hb; have hb2 := hb1.trans (hb.mono hb1.size); clear hb1 ho hb CN hC2)
     | (go_at_call 17; refine (CP _ _ _ _ _ hC2' lc2 hC3).mono ?_; rintro e w3 ⟨A4, c4, rfl, lc4, hC4, hb⟩; have hb3 := hb2.trans (hb.mono hb2.size); clear hb2 hb CP hC2' hC3)
     | (go_at_call 19; refine (RK _ hb3).mono ?_; rintro e w4 ⟨rfl, hb⟩; have hC4' := Kd.C_below hC4 hb; have hb4 := hb3.trans (hb.mono hb3.size); clear hb3 hb RK)
     | (go_at_call 20; go_loud (refine (GX.out _ _ _ hC4' lc4).mono ?_; rintro e x1 ⟨hb, h1, -⟩; obtain ⟨r, rfl, hR⟩ := h1 l0 _ rfl; obtain ⟨B1, e1, rfl, le1, hD1⟩ := Kd.R_reads hR; have hC4x := Kd.C_below hC4' hb; have hbx1 := hb4.trans (hb.mono hb4.size); clear hb4 hb h1 hR hC4' GX))
     | (go_at_call 9; refine (CB _ hb4).mono ?_; rintro e w5 ⟨A5, c5, rfl, lc5, hC5, hb⟩; have hb5 := hb4.trans (hb.mono hb4.size); clear hb4 hb CB)
     | (go_at_call 20; refine (HG.out _ _ _ hC5 lc5).mono ?_; rintro e w6 ⟨hb, -, h2⟩; obtain rfl := h2 rfl; have hb6 := hb5.trans (hb.mono hb5.size); clear hb5 hb h2 hC5)
     | (go_at_call 23; refine (HQ.out _ hb6).mono ?_; rintro e w7 ⟨⟨l, q, A8, c8, D8, d8, rfl, lc8, hC8, hh8, he8⟩, hb⟩; have p2 : w7.cell? ⟨_, 2, none⟩ = some (.bool true) := blk_cell hh8 2; have hb7 := hb6.trans (hb.mono hb6.size); clear hb hb6 HQ)
     | (go_at_call 24; refine (awake_u _).mono ?_; rintro e w9 ⟨rfl, hb⟩; have hb9 := hb7.trans (hb.mono hb7.size); clear hb7 hb))
   refine wp_region_noPanic ?_
   refine start_ (n := 25) (S := fun w' => (convert 22 9 (.slice A4 X.length c4)).run Try.prog w' = .ok (.string (strOfNums X)) w' ∧ (convert 22 9 (.slice A1 b1.length c1)).run Try.prog w' = .ok (.string (strOfNums b1)) w') (ds := []) #[false, false, false, false, false, false, false, false, false, false, false, false, false, false, false, false, false, false, false, false, false, false, false, false, false] (by kernel_rfl) rfl rfl ⟨str_c (Kd.C_drew hC4x), CS _ (below_drew hbx1)⟩ (fun hHeld => ?_)
   refine pure_ (i := 0) (N := some 31) (v := ?_) (a' := ?_) #[true, false, false, false, false, false, false, false, false, false, false, false, false, false, false, false, false, false, false, false, false, false, false, false, false] rfl rfl (by kernel_rfl) (fun _ _ _ h => h) (Or.inl ⟨by rfl, ?_⟩) ?_ ?_
   rotate_left
   · intro w'
     go_simp
     with_reducible rfl
   rotate_left
   · simp only [Act.put, List.setIfInBounds_toArray, List.set_cons_zero, List.set_cons_succ, i64_w, i32_w]
     rfl
   refine take_ (i := 1) (N := some 32) (v := ?_) (a' := ?_) #[true, true, false, false, false, false, false, false, false, false, false, false, false, false, false, false, false, false, false, false, false, false, false, false, false] rfl rfl (by kernel_rfl) (fun _ _ _ h => h) (Or.inl ⟨by rfl, ?_⟩) hHeld ?_ ?_
   rotate_left
   · rintro w' ⟨s0_, s1_⟩
     go_simp
     with_reducible rfl
   rotate_left
   · simp only [Act.put, List.setIfInBounds_toArray, List.set_cons_zero, List.set_cons_succ, i64_w, i32_w]
     rfl
   refine pure_ (i := 2) (N := some 33) (v := ?_) (a' := ?_) #[true, true, true, false, false, false, false, false, false, false, false, false, false, false, false, false, false, false, false, false, false, false, false, false, false] rfl rfl (by kernel_rfl) (fun _ _ _ h => h) (Or.inl ⟨by rfl, ?_⟩) ?_ ?_
   rotate_left
   · intro w'
     go_simp
     with_reducible rfl
   rotate_left
   · simp only [Act.put, List.setIfInBounds_toArray, List.set_cons_zero, List.set_cons_succ, i64_w, i32_w]
     rfl
   refine take_ (i := 3) (N := some 34) (v := ?_) (a' := ?_) #[true, true, true, true, false, false, false, false, false, false, false, false, false, false, false, false, false, false, false, false, false, false, false, false, false] rfl rfl (by kernel_rfl) (fun _ _ _ h => h) (Or.inl ⟨by rfl, ?_⟩) hHeld ?_ ?_
   rotate_left
   · rintro w' ⟨s0_, s1_⟩
     go_simp
     with_reducible rfl
   rotate_left
   · simp only [Act.put, List.setIfInBounds_toArray, List.set_cons_zero, List.set_cons_succ, i64_w, i32_w]
     rfl
   refine pure_ (i := 4) (N := some 35) (v := ?_) (a' := ?_) #[true, true, true, true, true, false, false, false, false, false, false, false, false, false, false, false, false, false, false, false, false, false, false, false, false] rfl rfl (by kernel_rfl) (fun _ _ _ h => h) (Or.inl ⟨by rfl, ?_⟩) ?_ ?_
   rotate_left
   · intro w'
     go_simp
     with_reducible rfl
   rotate_left
   · simp only [Act.put, List.setIfInBounds_toArray, List.set_cons_zero, List.set_cons_succ, i64_w, i32_w]
     rfl
   refine one_ (i := 5) (N := some 36) #[true, true, true, true, true, true, false, false, false, false, false, false, false, false, false, false, false, false, false, false, false, false, false, false, false] rfl rfl (by kernel_rfl) (by simp) (fun K hK => ?_)
   refine goes_ Try.func21 (by kernel_rfl) rfl #[.slice A0 l0.length c0] (by rfl) rfl rfl (by (try simp only [List.map_toArray, List.map_cons, List.map_nil]); first | done | rfl) ?_
   refine (RI _ (below_drew hbx1)).mono ?_
   rintro e x2 ⟨B2, e2, rfl, le2, hD2, hb⟩
   refine ⟨_, rfl, ?_⟩
   have s3 := str_c (c := e2) hD2; have hD1' := Kd.C_below (Kd.C_drew hD1) hb; have hC4y := Kd.C_below (Kd.C_drew hC4x) hb; have hbx2 := (below_drew hbx1).trans (hb.mono (below_drew hbx1).size); have hC0' := Kd.C_below HC0.out hbx2; clear hbx1 hb RI hD1 hD2 hC4x
   clear hHeld
   refine hK.out _ _ ⟨str_c hC4y, CS _ hbx2⟩ (fun hHeld => ?_)
   clear hK K
   refine norm_ (a' := ?_) ?_ ?_
   rotate_left
   · show Act.put _ (some 36) _ = _
     simp only [Act.put, List.setIfInBounds_toArray, List.set_cons_zero, List.set_cons_succ, i64_w, i32_w]
     rfl
   refine one_ (i := 6) (N := some 37) #[true, true, true, true, true, true, true, false, false, false, false, false, false, false, false, false, false, false, false, false, false, false, false, false, false] rfl rfl (by kernel_rfl) (by simp) (fun K hK => ?_)
   refine value_ (v := .string (strOfNums Y)) (w1 := x2) (by rfl) rfl ?_ ?_
   · go_simp
   clear hHeld
   refine hK.out _ _ ⟨str_c hC4y, CS _ hbx2⟩ (fun hHeld => ?_)
   clear hK K
   refine norm_ (a' := ?_) ?_ ?_
   rotate_left
   · show Act.put _ (some 37) _ = _
     simp only [Act.put, List.setIfInBounds_toArray, List.set_cons_zero, List.set_cons_succ, i64_w, i32_w]
     rfl
   clear s3
   refine pure_ (i := 7) (N := some 38) (v := ?_) (a' := ?_) #[true, true, true, true, true, true, true, true, false, false, false, false, false, false, false, false, false, false, false, false, false, false, false, false, false] rfl rfl (by kernel_rfl) (fun _ _ _ h => h) (Or.inl ⟨by rfl, ?_⟩) ?_ ?_
   rotate_left
   · intro w'
     go_simp
     with_reducible rfl
   rotate_left
   · simp only [Act.put, List.setIfInBounds_toArray, List.set_cons_zero, List.set_cons_succ, i64_w, i32_w]
     rfl
   refine pure_ (i := 8) (N := some 39) (v := ?_) (a' := ?_) #[true, true, true, true, true, true, true, true, true, false, false, false, false, false, false, false, false, false, false, false, false, false, false, false, false] rfl rfl (by kernel_rfl) (fun _ _ _ h => h) (Or.inl ⟨by rfl, ?_⟩) ?_ ?_
   rotate_left
   · intro w'
     go_simp
     with_reducible rfl
   rotate_left
   · simp only [Act.put, List.setIfInBounds_toArray, List.set_cons_zero, List.set_cons_succ, i64_w, i32_w]
     rfl
   refine pure_ (i := 9) (N := some 40) (v := ?_) (a' := ?_) #[true, true, true, true, true, true, true, true, true, true, false, false, false, false, false, false, false, false, false, false, false, false, false, false, false] rfl rfl (by kernel_rfl) (fun _ _ _ h => h) (Or.inl ⟨by rfl, ?_⟩) ?_ ?_
   rotate_left
   · intro w'
     go_simp
     with_reducible rfl
   rotate_left
   · simp only [Act.put, List.setIfInBounds_toArray, List.set_cons_zero, List.set_cons_succ, i64_w, i32_w]
     rfl
   refine pure_ (i := 10) (N := some 41) (v := ?_) (a' := ?_) #[true, true, true, true, true, true, true, true, true, true, true, false, false, false, false, false, false, false, false, false, false, false, false, false, false] rfl rfl (by kernel_rfl) (fun _ _ _ h => h) (Or.inl ⟨by rfl, ?_⟩) ?_ ?_
   rotate_left
   · intro w'
     go_simp
     with_reducible rfl
   rotate_left
   · simp only [Act.put, List.setIfInBounds_toArray, List.set_cons_zero, List.set_cons_succ, i64_w, i32_w]
     rfl
   refine pure_ (i := 11) (N := some 42) (v := ?_) (a' := ?_) #[true, true, true, true, true, true, true, true, true, true, true, true, false, false, false, false, false, false, false, false, false, false, false, false, false] rfl rfl (by kernel_rfl) (fun _ _ _ h => h) (Or.inl ⟨by rfl, ?_⟩) ?_ ?_
   rotate_left
   · intro w'
     go_simp
     with_reducible rfl
   rotate_left
   · simp only [Act.put, List.setIfInBounds_toArray, List.set_cons_zero, List.set_cons_succ, i64_w, i32_w]
     rfl
   refine one_ (i := 12) (N := some 43) #[true, true, true, true, true, true, true, true, true, true, true, true, true, false, false, false, false, false, false, false, false, false, false, false, false] rfl rfl (by kernel_rfl) (by simp) (fun K hK => ?_)
   refine goes_ Try.func22 (by kernel_rfl) rfl #[.slice B1 l0.length e1, .slice A0 l0.length c0] (by rfl) rfl rfl (by (try simp only [List.map_toArray, List.map_cons, List.map_nil]); first | done | rfl) ?_
   refine (same_c hl0 hD1' le1 hC0' HM0.out).mono ?_
   rintro e x3 ⟨rfl, hb⟩
   refine ⟨_, rfl, ?_⟩
   rw [decide_eq_true rfl]; have hC4z := Kd.C_below hC4y hb; have hb4 := hbx2.trans (hb.mono hbx2.size); clear hb hbx2 hD1' hC0' hC4y
   clear hHeld
   refine hK.out _ _ ⟨str_c hC4z, CS _ hb4⟩ (fun hHeld => ?_)
   clear hK K
   refine norm_ (a' := ?_) ?_ ?_
   rotate_left
   · show Act.put _ (some 43) _ = _
     simp only [Act.put, List.setIfInBounds_toArray, List.set_cons_zero, List.set_cons_succ, i64_w, i32_w]
     rfl
   refine pure_ (i := 13) (N := some 44) (v := ?_) (a' := ?_) #[true, true, true, true, true, true, true, true, true, true, true, true, true, true, false, false, false, false, false, false, false, false, false, false, false] rfl rfl (by kernel_rfl) (fun _ _ _ h => h) (Or.inl ⟨by rfl, ?_⟩) ?_ ?_
   rotate_left
   · intro w'
     go_simp
     with_reducible rfl
   rotate_left
   · simp only [Act.put, List.setIfInBounds_toArray, List.set_cons_zero, List.set_cons_succ, i64_w, i32_w]
     rfl
   refine pure_ (i := 14) (N := some 45) (v := ?_) (a' := ?_) #[true, true, true, true, true, true, true, true, true, true, true, true, true, true, true, false, false, false, false, false, false, false, false, false, false] rfl rfl (by kernel_rfl) (fun _ _ _ h => h) (Or.inl ⟨by rfl, ?_⟩) ?_ ?_
   rotate_left
   · intro w'
     go_simp
     with_reducible rfl
   rotate_left
   · simp only [Act.put, List.setIfInBounds_toArray, List.set_cons_zero, List.set_cons_succ, i64_w, i32_w]
     rfl
   refine pure_ (i := 15) (N := some 46) (v := ?_) (a' := ?_) #[true, true, true, true, true, true, true, true, true, true, true, true, true, true, true, true, false, false, false, false, false, false, false, false, false] rfl rfl (by kernel_rfl) (fun _ _ _ h => h) (Or.inl ⟨by rfl, ?_⟩) ?_ ?_
   rotate_left
   · intro w'
     go_simp
     with_reducible rfl
   rotate_left
   · simp only [Act.put, List.setIfInBounds_toArray, List.set_cons_zero, List.set_cons_succ, i64_w, i32_w]
     rfl
   refine pure_ (i := 16) (N := some 47) (v := ?_) (a' := ?_) #[true, true, true, true, true, true, true, true, true, true, true, true, true, true, true, true, true, false, false, false, false, false, false, false, false] rfl rfl (by kernel_rfl) (fun _ _ _ h => h) (Or.inl ⟨by rfl, ?_⟩) ?_ ?_
   rotate_left
   · intro w'
     go_simp
     with_reducible rfl
   rotate_left
   · simp only [Act.put, List.setIfInBounds_toArray, List.set_cons_zero, List.set_cons_succ, i64_w, i32_w]
     rfl
   refine pure_ (i := 17) (N := some 48) (v := ?_) (a' := ?_) #[true, true, true, true, true, true, true, true, true, true, true, true, true, true, true, true, true, true, false, false, false, false, false, false, false] rfl rfl (by kernel_rfl) (fun _ _ _ h => h) (Or.inl ⟨by rfl, ?_⟩) ?_ ?_
   rotate_left
   · intro w'
     go_simp
     with_reducible rfl
   rotate_left
   · simp only [Act.put, List.setIfInBounds_toArray, List.set_cons_zero, List.set_cons_succ, i64_w, i32_w]
     rfl
   refine pure_ (i := 18) (N := some 49) (v := ?_) (a' := ?_) #[true, true, true, true, true, true, true, true, true, true, true, true, true, true, true, true, true, true, true, false, false, false, false, false, false] rfl rfl (by kernel_rfl) (fun _ _ _ h => h) (Or.inl ⟨by rfl, ?_⟩) ?_ ?_
   rotate_left
   · intro w'
     go_simp
     with_reducible rfl
   rotate_left
   · simp only [Act.put, List.setIfInBounds_toArray, List.set_cons_zero, List.set_cons_succ, i64_w, i32_w]
     rfl
   refine pure_ (i := 19) (N := some 50) (v := ?_) (a' := ?_) #[true, true, true, true, true, true, true, true, true, true, true, true, true, true, true, true, true, true, true, true, false, false, false, false, false] rfl rfl (by kernel_rfl) (fun _ _ _ h => h) (Or.inl ⟨by rfl, ?_⟩) ?_ ?_
   rotate_left
   · intro w'
     go_simp
     with_reducible rfl
   rotate_left
   · simp only [Act.put, List.setIfInBounds_toArray, List.set_cons_zero, List.set_cons_succ, i64_w, i32_w]
     rfl
   refine pure_ (i := 20) (N := some 51) (v := ?_) (a' := ?_) #[true, true, true, true, true, true, true, true, true, true, true, true, true, true, true, true, true, true, true, true, true, false, false, false, false] rfl rfl (by kernel_rfl) (fun _ _ _ h => h) (Or.inl ⟨by rfl, ?_⟩) ?_ ?_
   rotate_left
   · intro w'
     go_simp
     with_reducible rfl
   rotate_left
   · simp only [Act.put, List.setIfInBounds_toArray, List.set_cons_zero, List.set_cons_succ, i64_w, i32_w]
     rfl
   refine pure_ (i := 21) (N := some 52) (v := ?_) (a' := ?_) #[true, true, true, true, true, true, true, true, true, true, true, true, true, true, true, true, true, true, true, true, true, true, false, false, false] rfl rfl (by kernel_rfl) (fun _ _ _ h => h) (Or.inl ⟨by rfl, ?_⟩) ?_ ?_
   rotate_left
   · intro w'
     go_simp
     with_reducible rfl
   rotate_left
   · simp only [Act.put, List.setIfInBounds_toArray, List.set_cons_zero, List.set_cons_succ, i64_w, i32_w]
     rfl
   refine pure_ (i := 22) (N := some 53) (v := ?_) (a' := ?_) #[true, true, true, true, true, true, true, true, true, true, true, true, true, true, true, true, true, true, true, true, true, true, true, false, false] rfl rfl (by kernel_rfl) (fun _ _ _ h => h) (Or.inl ⟨by rfl, ?_⟩) ?_ ?_
   rotate_left
   · intro w'
     go_simp
     with_reducible rfl
   rotate_left
   · simp only [Act.put, List.setIfInBounds_toArray, List.set_cons_zero, List.set_cons_succ, i64_w, i32_w]
     rfl
   refine pure_ (i := 23) (N := some 54) (v := ?_) (a' := ?_) #[true, true, true, true, true, true, true, true, true, true, true, true, true, true, true, true, true, true, true, true, true, true, true, true, false] rfl rfl (by kernel_rfl) (fun _ _ _ h => h) (Or.inl ⟨by rfl, ?_⟩) ?_ ?_
   rotate_left
   · intro w'
     go_simp
     with_reducible rfl
   rotate_left
   · simp only [Act.put, List.setIfInBounds_toArray, List.set_cons_zero, List.set_cons_succ, i64_w, i32_w]
     rfl
   refine pure_ (i := 24) (N := some 55) (v := ?_) (a' := ?_) #[true, true, true, true, true, true, true, true, true, true, true, true, true, true, true, true, true, true, true, true, true, true, true, true, true] rfl rfl (by kernel_rfl) (fun _ _ _ h => h) (Or.inl ⟨by rfl, ?_⟩) ?_ ?_
   rotate_left
   · intro w'
     go_simp
     with_reducible rfl
   rotate_left
   · simp only [Act.put, List.setIfInBounds_toArray, List.set_cons_zero, List.set_cons_succ, i64_w, i32_w]
     rfl
   refine done_ (by kernel_rfl) ?_
   refine NoPanic.normal ?_
   clear hHeld
   go_wp2_with (first
     | (go_at_call 9; refine (CB _ hb4).mono ?_; rintro e w5 ⟨A5, c5, rfl, lc5, hC5, hb⟩; have hb5 := hb4.trans (hb.mono hb4.size); clear hb4 hb CB)
     | (go_at_call 20; refine (HG.out _ _ _ hC5 lc5).mono ?_; rintro e w6 ⟨hb, -, h2⟩; obtain rfl := h2 rfl; have hb6 := hb5.trans (hb.mono hb5.size); clear hb5 hb h2 hC5)
     | (go_at_call 23; refine (HQ.out _ hb6).mono ?_; rintro e w7 ⟨⟨l, q, A8, c8, D8, d8, rfl, lc8, hC8, hh8, he8⟩, hb⟩; have p2 : w7.cell? ⟨_, 2, none⟩ = some (.bool true) := blk_cell hh8 2; have hb7 := hb6.trans (hb.mono hb6.size); clear hb hb6 HQ)
     | (go_at_call 24; refine (awake_u _).mono ?_; rintro e w9 ⟨rfl, hb⟩; have hb9 := hb7.trans (hb.mono hb7.size); clear hb7 hb))
   go_ret
   exact ⟨rfl, hb9⟩
  | some x =>
   obtain ⟨l, q⟩ := x
   have hll := HLN.out l q hr
   rw [hr] at HG HQ
   go_enter Try.func6, Try.ntmps6
   go_wp2_with (first
     | (go_at_call 9; refine (CB _ hb0).mono ?_; rintro e w1 ⟨A2, c2, rfl, lc2, hC2, hb⟩; have hb1 := hb0.trans (hb.mono hb0.size); clear hb0 hb)
     | (go_at_call 18; refine (CN _ hb1).mono ?_; rintro e w2 ⟨A3, c3, rfl, lc3, hC3, ho, hb⟩; have hC2' := Kd.C_below hC2 hb; have hb2 := hb1.trans (hb.mono hb1.size); clear hb1 ho hb CN hC2)
     | (go_at_call 17; refine (CP _ _ _ _ _ hC2' lc2 hC3).mono ?_; rintro e w3 ⟨A4, c4, rfl, lc4, hC4, hb⟩; have hb3 := hb2.trans (hb.mono hb2.size); clear hb2 hb CP hC2' hC3)
     | (go_at_call 19; refine (RK _ hb3).mono ?_; rintro e w4 ⟨rfl, hb⟩; have hC4' := Kd.C_below hC4 hb; have hb4 := hb3.trans (hb.mono hb3.size); clear hb3 hb RK)
     | (go_at_call 20; go_loud (refine (GX.out _ _ _ hC4' lc4).mono ?_; rintro e x1 ⟨hb, h1, -⟩; obtain ⟨r, rfl, hR⟩ := h1 l0 _ rfl; obtain ⟨B1, e1, rfl, le1, hD1⟩ := Kd.R_reads hR; have hC4x := Kd.C_below hC4' hb; have hbx1 := hb4.trans (hb.mono hb4.size); clear hb4 hb h1 hR hC4' GX))
     | (go_at_call 9; refine (CB _ hb4).mono ?_; rintro e w5 ⟨A5, c5, rfl, lc5, hC5, hb⟩; have hb5 := hb4.trans (hb.mono hb4.size); clear hb4 hb CB)
     | (go_at_call 20; refine (HG.out _ _ _ hC5 lc5).mono ?_; rintro e w6 ⟨hb, h1, -⟩; obtain ⟨r, rfl, hR⟩ := h1 l q rfl; obtain ⟨A6, c6, rfl, lc6, hC6⟩ := Kd.R_reads hR; have hb6 := hb5.trans (hb.mono hb5.size); clear hb5 hb h1 hR hC5)
     | (go_at_call 23; refine (HQ.out _ hb6).mono ?_; rintro e w7 ⟨⟨l', q', A8, c8, D8, d8, rfl, lc8, hC8, hh8, he8⟩, hb⟩; obtain ⟨rfl, rfl⟩ := he8 _ _ rfl; have p2 : w7.cell? ⟨_, 2, none⟩ = some (.bool false) := blk_cell hh8 2; have hC6' := Kd.C_below hC6 hb; have hb7 := hb6.trans (hb.mono hb6.size); clear hb hb6 HQ he8 hC6)
     | (go_at_call 22; refine (same_c (by omega) hC6' lc6 hC8 lc8).mono ?_; rintro e w8 ⟨rfl, hb⟩; rw [decide_eq_true rfl]; have p1 : w8.cell? ⟨_, 1, none⟩ = some (.int .i64 _) := blk_cell (blk_below hh8 hb) 1; have hb8 := hb7.trans (hb.mono hb7.size); clear hb hb7 hC6' hC8)
     | (go_at_call 24; refine (awake_u _).mono ?_; rintro e w9 ⟨rfl, hb⟩; have hb9 := hb8.trans (hb.mono hb8.size); clear hb8 hb))
   refine wp_region_noPanic ?_
   refine start_ (n := 25) (S := fun w' => (convert 22 9 (.slice A4 X.length c4)).run Try.prog w' = .ok (.string (strOfNums X)) w' ∧ (convert 22 9 (.slice A1 b1.length c1)).run Try.prog w' = .ok (.string (strOfNums b1)) w') (ds := []) #[false, false, false, false, false, false, false, false, false, false, false, false, false, false, false, false, false, false, false, false, false, false, false, false, false] (by kernel_rfl) rfl rfl ⟨str_c (Kd.C_drew hC4x), CS _ (below_drew hbx1)⟩ (fun hHeld => ?_)
   refine pure_ (i := 0) (N := some 31) (v := ?_) (a' := ?_) #[true, false, false, false, false, false, false, false, false, false, false, false, false, false, false, false, false, false, false, false, false, false, false, false, false] rfl rfl (by kernel_rfl) (fun _ _ _ h => h) (Or.inl ⟨by rfl, ?_⟩) ?_ ?_
   rotate_left
   · intro w'
     go_simp
     with_reducible rfl
   rotate_left
   · simp only [Act.put, List.setIfInBounds_toArray, List.set_cons_zero, List.set_cons_succ, i64_w, i32_w]
     rfl
   refine take_ (i := 1) (N := some 32) (v := ?_) (a' := ?_) #[true, true, false, false, false, false, false, false, false, false, false, false, false, false, false, false, false, false, false, false, false, false, false, false, false] rfl rfl (by kernel_rfl) (fun _ _ _ h => h) (Or.inl ⟨by rfl, ?_⟩) hHeld ?_ ?_
   rotate_left
   · rintro w' ⟨s0_, s1_⟩
     go_simp
     with_reducible rfl
   rotate_left
   · simp only [Act.put, List.setIfInBounds_toArray, List.set_cons_zero, List.set_cons_succ, i64_w, i32_w]
     rfl
   refine pure_ (i := 2) (N := some 33) (v := ?_) (a' := ?_) #[true, true, true, false, false, false, false, false, false, false, false, false, false, false, false, false, false, false, false, false, false, false, false, false, false] rfl rfl (by kernel_rfl) (fun _ _ _ h => h) (Or.inl ⟨by rfl, ?_⟩) ?_ ?_
   rotate_left
   · intro w'
     go_simp
     with_reducible rfl
   rotate_left
   · simp only [Act.put, List.setIfInBounds_toArray, List.set_cons_zero, List.set_cons_succ, i64_w, i32_w]
     rfl
   refine take_ (i := 3) (N := some 34) (v := ?_) (a' := ?_) #[true, true, true, true, false, false, false, false, false, false, false, false, false, false, false, false, false, false, false, false, false, false, false, false, false] rfl rfl (by kernel_rfl) (fun _ _ _ h => h) (Or.inl ⟨by rfl, ?_⟩) hHeld ?_ ?_
   rotate_left
   · rintro w' ⟨s0_, s1_⟩
     go_simp
     with_reducible rfl
   rotate_left
   · simp only [Act.put, List.setIfInBounds_toArray, List.set_cons_zero, List.set_cons_succ, i64_w, i32_w]
     rfl
   refine pure_ (i := 4) (N := some 35) (v := ?_) (a' := ?_) #[true, true, true, true, true, false, false, false, false, false, false, false, false, false, false, false, false, false, false, false, false, false, false, false, false] rfl rfl (by kernel_rfl) (fun _ _ _ h => h) (Or.inl ⟨by rfl, ?_⟩) ?_ ?_
   rotate_left
   · intro w'
     go_simp
     with_reducible rfl
   rotate_left
   · simp only [Act.put, List.setIfInBounds_toArray, List.set_cons_zero, List.set_cons_succ, i64_w, i32_w]
     rfl
   refine one_ (i := 5) (N := some 36) #[true, true, true, true, true, true, false, false, false, false, false, false, false, false, false, false, false, false, false, false, false, false, false, false, false] rfl rfl (by kernel_rfl) (by simp) (fun K hK => ?_)
   refine goes_ Try.func21 (by kernel_rfl) rfl #[.slice A0 l0.length c0] (by rfl) rfl rfl (by (try simp only [List.map_toArray, List.map_cons, List.map_nil]); first | done | rfl) ?_
   refine (RI _ (below_drew hbx1)).mono ?_
   rintro e x2 ⟨B2, e2, rfl, le2, hD2, hb⟩
   refine ⟨_, rfl, ?_⟩
   have s3 := str_c (c := e2) hD2; have hD1' := Kd.C_below (Kd.C_drew hD1) hb; have hC4y := Kd.C_below (Kd.C_drew hC4x) hb; have hbx2 := (below_drew hbx1).trans (hb.mono (below_drew hbx1).size); have hC0' := Kd.C_below HC0.out hbx2; clear hbx1 hb RI hD1 hD2 hC4x
   clear hHeld
   refine hK.out _ _ ⟨str_c hC4y, CS _ hbx2⟩ (fun hHeld => ?_)
   clear hK K
   refine norm_ (a' := ?_) ?_ ?_
   rotate_left
   · show Act.put _ (some 36) _ = _
     simp only [Act.put, List.setIfInBounds_toArray, List.set_cons_zero, List.set_cons_succ, i64_w, i32_w]
     rfl
   refine one_ (i := 6) (N := some 37) #[true, true, true, true, true, true, true, false, false, false, false, false, false, false, false, false, false, false, false, false, false, false, false, false, false] rfl rfl (by kernel_rfl) (by simp) (fun K hK => ?_)
   refine value_ (v := .string (strOfNums Y)) (w1 := x2) (by rfl) rfl ?_ ?_
   · go_simp
   clear hHeld
   refine hK.out _ _ ⟨str_c hC4y, CS _ hbx2⟩ (fun hHeld => ?_)
   clear hK K
   refine norm_ (a' := ?_) ?_ ?_
   rotate_left
   · show Act.put _ (some 37) _ = _
     simp only [Act.put, List.setIfInBounds_toArray, List.set_cons_zero, List.set_cons_succ, i64_w, i32_w]
     rfl
   clear s3
   refine pure_ (i := 7) (N := some 38) (v := ?_) (a' := ?_) #[true, true, true, true, true, true, true, true, false, false, false, false, false, false, false, false, false, false, false, false, false, false, false, false, false] rfl rfl (by kernel_rfl) (fun _ _ _ h => h) (Or.inl ⟨by rfl, ?_⟩) ?_ ?_
   rotate_left
   · intro w'
     go_simp
     with_reducible rfl
   rotate_left
   · simp only [Act.put, List.setIfInBounds_toArray, List.set_cons_zero, List.set_cons_succ, i64_w, i32_w]
     rfl
   refine pure_ (i := 8) (N := some 39) (v := ?_) (a' := ?_) #[true, true, true, true, true, true, true, true, true, false, false, false, false, false, false, false, false, false, false, false, false, false, false, false, false] rfl rfl (by kernel_rfl) (fun _ _ _ h => h) (Or.inl ⟨by rfl, ?_⟩) ?_ ?_
   rotate_left
   · intro w'
     go_simp
     with_reducible rfl
   rotate_left
   · simp only [Act.put, List.setIfInBounds_toArray, List.set_cons_zero, List.set_cons_succ, i64_w, i32_w]
     rfl
   refine pure_ (i := 9) (N := some 40) (v := ?_) (a' := ?_) #[true, true, true, true, true, true, true, true, true, true, false, false, false, false, false, false, false, false, false, false, false, false, false, false, false] rfl rfl (by kernel_rfl) (fun _ _ _ h => h) (Or.inl ⟨by rfl, ?_⟩) ?_ ?_
   rotate_left
   · intro w'
     go_simp
     with_reducible rfl
   rotate_left
   · simp only [Act.put, List.setIfInBounds_toArray, List.set_cons_zero, List.set_cons_succ, i64_w, i32_w]
     rfl
   refine pure_ (i := 10) (N := some 41) (v := ?_) (a' := ?_) #[true, true, true, true, true, true, true, true, true, true, true, false, false, false, false, false, false, false, false, false, false, false, false, false, false] rfl rfl (by kernel_rfl) (fun _ _ _ h => h) (Or.inl ⟨by rfl, ?_⟩) ?_ ?_
   rotate_left
   · intro w'
     go_simp
     with_reducible rfl
   rotate_left
   · simp only [Act.put, List.setIfInBounds_toArray, List.set_cons_zero, List.set_cons_succ, i64_w, i32_w]
     rfl
   refine pure_ (i := 11) (N := some 42) (v := ?_) (a' := ?_) #[true, true, true, true, true, true, true, true, true, true, true, true, false, false, false, false, false, false, false, false, false, false, false, false, false] rfl rfl (by kernel_rfl) (fun _ _ _ h => h) (Or.inl ⟨by rfl, ?_⟩) ?_ ?_
   rotate_left
   · intro w'
     go_simp
     with_reducible rfl
   rotate_left
   · simp only [Act.put, List.setIfInBounds_toArray, List.set_cons_zero, List.set_cons_succ, i64_w, i32_w]
     rfl
   refine one_ (i := 12) (N := some 43) #[true, true, true, true, true, true, true, true, true, true, true, true, true, false, false, false, false, false, false, false, false, false, false, false, false] rfl rfl (by kernel_rfl) (by simp) (fun K hK => ?_)
   refine goes_ Try.func22 (by kernel_rfl) rfl #[.slice B1 l0.length e1, .slice A0 l0.length c0] (by rfl) rfl rfl (by (try simp only [List.map_toArray, List.map_cons, List.map_nil]); first | done | rfl) ?_
   refine (same_c hl0 hD1' le1 hC0' HM0.out).mono ?_
   rintro e x3 ⟨rfl, hb⟩
   refine ⟨_, rfl, ?_⟩
   rw [decide_eq_true rfl]; have hC4z := Kd.C_below hC4y hb; have hb4 := hbx2.trans (hb.mono hbx2.size); clear hb hbx2 hD1' hC0' hC4y
   clear hHeld
   refine hK.out _ _ ⟨str_c hC4z, CS _ hb4⟩ (fun hHeld => ?_)
   clear hK K
   refine norm_ (a' := ?_) ?_ ?_
   rotate_left
   · show Act.put _ (some 43) _ = _
     simp only [Act.put, List.setIfInBounds_toArray, List.set_cons_zero, List.set_cons_succ, i64_w, i32_w]
     rfl
   refine pure_ (i := 13) (N := some 44) (v := ?_) (a' := ?_) #[true, true, true, true, true, true, true, true, true, true, true, true, true, true, false, false, false, false, false, false, false, false, false, false, false] rfl rfl (by kernel_rfl) (fun _ _ _ h => h) (Or.inl ⟨by rfl, ?_⟩) ?_ ?_
   rotate_left
   · intro w'
     go_simp
     with_reducible rfl
   rotate_left
   · simp only [Act.put, List.setIfInBounds_toArray, List.set_cons_zero, List.set_cons_succ, i64_w, i32_w]
     rfl
   refine pure_ (i := 14) (N := some 45) (v := ?_) (a' := ?_) #[true, true, true, true, true, true, true, true, true, true, true, true, true, true, true, false, false, false, false, false, false, false, false, false, false] rfl rfl (by kernel_rfl) (fun _ _ _ h => h) (Or.inl ⟨by rfl, ?_⟩) ?_ ?_
   rotate_left
   · intro w'
     go_simp
     with_reducible rfl
   rotate_left
   · simp only [Act.put, List.setIfInBounds_toArray, List.set_cons_zero, List.set_cons_succ, i64_w, i32_w]
     rfl
   refine pure_ (i := 15) (N := some 46) (v := ?_) (a' := ?_) #[true, true, true, true, true, true, true, true, true, true, true, true, true, true, true, true, false, false, false, false, false, false, false, false, false] rfl rfl (by kernel_rfl) (fun _ _ _ h => h) (Or.inl ⟨by rfl, ?_⟩) ?_ ?_
   rotate_left
   · intro w'
     go_simp
     with_reducible rfl
   rotate_left
   · simp only [Act.put, List.setIfInBounds_toArray, List.set_cons_zero, List.set_cons_succ, i64_w, i32_w]
     rfl
   refine pure_ (i := 16) (N := some 47) (v := ?_) (a' := ?_) #[true, true, true, true, true, true, true, true, true, true, true, true, true, true, true, true, true, false, false, false, false, false, false, false, false] rfl rfl (by kernel_rfl) (fun _ _ _ h => h) (Or.inl ⟨by rfl, ?_⟩) ?_ ?_
   rotate_left
   · intro w'
     go_simp
     with_reducible rfl
   rotate_left
   · simp only [Act.put, List.setIfInBounds_toArray, List.set_cons_zero, List.set_cons_succ, i64_w, i32_w]
     rfl
   refine pure_ (i := 17) (N := some 48) (v := ?_) (a' := ?_) #[true, true, true, true, true, true, true, true, true, true, true, true, true, true, true, true, true, true, false, false, false, false, false, false, false] rfl rfl (by kernel_rfl) (fun _ _ _ h => h) (Or.inl ⟨by rfl, ?_⟩) ?_ ?_
   rotate_left
   · intro w'
     go_simp
     with_reducible rfl
   rotate_left
   · simp only [Act.put, List.setIfInBounds_toArray, List.set_cons_zero, List.set_cons_succ, i64_w, i32_w]
     rfl
   refine pure_ (i := 18) (N := some 49) (v := ?_) (a' := ?_) #[true, true, true, true, true, true, true, true, true, true, true, true, true, true, true, true, true, true, true, false, false, false, false, false, false] rfl rfl (by kernel_rfl) (fun _ _ _ h => h) (Or.inl ⟨by rfl, ?_⟩) ?_ ?_
   rotate_left
   · intro w'
     go_simp
     with_reducible rfl
   rotate_left
   · simp only [Act.put, List.setIfInBounds_toArray, List.set_cons_zero, List.set_cons_succ, i64_w, i32_w]
     rfl
   refine pure_ (i := 19) (N := some 50) (v := ?_) (a' := ?_) #[true, true, true, true, true, true, true, true, true, true, true, true, true, true, true, true, true, true, true, true, false, false, false, false, false] rfl rfl (by kernel_rfl) (fun _ _ _ h => h) (Or.inl ⟨by rfl, ?_⟩) ?_ ?_
   rotate_left
   · intro w'
     go_simp
     with_reducible rfl
   rotate_left
   · simp only [Act.put, List.setIfInBounds_toArray, List.set_cons_zero, List.set_cons_succ, i64_w, i32_w]
     rfl
   refine pure_ (i := 20) (N := some 51) (v := ?_) (a' := ?_) #[true, true, true, true, true, true, true, true, true, true, true, true, true, true, true, true, true, true, true, true, true, false, false, false, false] rfl rfl (by kernel_rfl) (fun _ _ _ h => h) (Or.inl ⟨by rfl, ?_⟩) ?_ ?_
   rotate_left
   · intro w'
     go_simp
     with_reducible rfl
   rotate_left
   · simp only [Act.put, List.setIfInBounds_toArray, List.set_cons_zero, List.set_cons_succ, i64_w, i32_w]
     rfl
   refine pure_ (i := 21) (N := some 52) (v := ?_) (a' := ?_) #[true, true, true, true, true, true, true, true, true, true, true, true, true, true, true, true, true, true, true, true, true, true, false, false, false] rfl rfl (by kernel_rfl) (fun _ _ _ h => h) (Or.inl ⟨by rfl, ?_⟩) ?_ ?_
   rotate_left
   · intro w'
     go_simp
     with_reducible rfl
   rotate_left
   · simp only [Act.put, List.setIfInBounds_toArray, List.set_cons_zero, List.set_cons_succ, i64_w, i32_w]
     rfl
   refine pure_ (i := 22) (N := some 53) (v := ?_) (a' := ?_) #[true, true, true, true, true, true, true, true, true, true, true, true, true, true, true, true, true, true, true, true, true, true, true, false, false] rfl rfl (by kernel_rfl) (fun _ _ _ h => h) (Or.inl ⟨by rfl, ?_⟩) ?_ ?_
   rotate_left
   · intro w'
     go_simp
     with_reducible rfl
   rotate_left
   · simp only [Act.put, List.setIfInBounds_toArray, List.set_cons_zero, List.set_cons_succ, i64_w, i32_w]
     rfl
   refine pure_ (i := 23) (N := some 54) (v := ?_) (a' := ?_) #[true, true, true, true, true, true, true, true, true, true, true, true, true, true, true, true, true, true, true, true, true, true, true, true, false] rfl rfl (by kernel_rfl) (fun _ _ _ h => h) (Or.inl ⟨by rfl, ?_⟩) ?_ ?_
   rotate_left
   · intro w'
     go_simp
     with_reducible rfl
   rotate_left
   · simp only [Act.put, List.setIfInBounds_toArray, List.set_cons_zero, List.set_cons_succ, i64_w, i32_w]
     rfl
   refine pure_ (i := 24) (N := some 55) (v := ?_) (a' := ?_) #[true, true, true, true, true, true, true, true, true, true, true, true, true, true, true, true, true, true, true, true, true, true, true, true, true] rfl rfl (by kernel_rfl) (fun _ _ _ h => h) (Or.inl ⟨by rfl, ?_⟩) ?_ ?_
   rotate_left
   · intro w'
     go_simp
     with_reducible rfl
   rotate_left
   · simp only [Act.put, List.setIfInBounds_toArray, List.set_cons_zero, List.set_cons_succ, i64_w, i32_w]
     rfl
   refine done_ (by kernel_rfl) ?_
   refine NoPanic.normal ?_
   clear hHeld
   go_wp2_with (first
     | (go_at_call 9; refine (CB _ hb4).mono ?_; rintro e w5 ⟨A5, c5, rfl, lc5, hC5, hb⟩; have hb5 := hb4.trans (hb.mono hb4.size); clear hb4 hb CB)
     | (go_at_call 20; refine (HG.out _ _ _ hC5 lc5).mono ?_; rintro e w6 ⟨hb, h1, -⟩; obtain ⟨r, rfl, hR⟩ := h1 l q rfl; obtain ⟨A6, c6, rfl, lc6, hC6⟩ := Kd.R_reads hR; have hb6 := hb5.trans (hb.mono hb5.size); clear hb5 hb h1 hR hC5)
     | (go_at_call 23; refine (HQ.out _ hb6).mono ?_; rintro e w7 ⟨⟨l', q', A8, c8, D8, d8, rfl, lc8, hC8, hh8, he8⟩, hb⟩; obtain ⟨rfl, rfl⟩ := he8 _ _ rfl; have p2 : w7.cell? ⟨_, 2, none⟩ = some (.bool false) := blk_cell hh8 2; have hC6' := Kd.C_below hC6 hb; have hb7 := hb6.trans (hb.mono hb6.size); clear hb hb6 HQ he8 hC6)
     | (go_at_call 22; refine (same_c (by omega) hC6' lc6 hC8 lc8).mono ?_; rintro e w8 ⟨rfl, hb⟩; rw [decide_eq_true rfl]; have p1 : w8.cell? ⟨_, 1, none⟩ = some (.int .i64 _) := blk_cell (blk_below hh8 hb) 1; have hb8 := hb7.trans (hb.mono hb7.size); clear hb hb7 hC6' hC8)
     | (go_at_call 24; refine (awake_u _).mono ?_; rintro e w9 ⟨rfl, hb⟩; have hb9 := hb8.trans (hb.mono hb8.size); clear hb8 hb))
   go_ret
   exact ⟨rfl, hb9⟩
end Go.Proofs.Ytofgcacahfdjdaa.Pure
namespace Go.Proofs.Ytofgcacahfdjdaa
set_option linter.unusedVariables false
set_option linter.unusedSimpArgs false
open Go.RowKit Go.ChangeShapes Go.WideShapes Go.Deep Go.Proofs.YtofgcacahfdjdaaW.PrintWords
theorem opens22 : Opens Try.prog 22 (Kd.slice 5 (Kd.int .u8)) (fun b => Pure.WBy b ∧ b.length ≤ 140737488351232) :=
  Opens.imp (opens_slice (B := 1) Try.underlying22 (by kernel_rfl) (by kernel_rfl) (opens_int Try.underlying5)) fun y h => ⟨⟨by omega, fun x hx => by
    have := h.2.2 x hx
    simp [Lit.wf, IntKind.min, IntKind.max, IntKind.bits, IntKind.signed] at this
    omega⟩, by omega⟩
end Go.Proofs.Ytofgcacahfdjdaa
namespace Go.Proofs.Ytofgcacahfdjdaa
set_option linter.unusedVariables false
set_option linter.unusedSimpArgs false
open Go.RowKit Go.ChangeShapes Go.WideShapes Go.Deep Go.Proofs.YtofgcacahfdjdaaW.PrintWords
theorem bulk_one {H : Type} (d : DataW H) : 1 ≤ Rows.uptoBulk d := by
  cases d with
  | lit l => cases l <;> simp [Rows.uptoBulk]
  | _ => simp [Rows.uptoBulk]
theorem bulk_all {H : Type} : ∀ l : List (DataW H), l.length ≤ Rows.uptoBulkAll l
  | [] => by simp [Rows.uptoBulkAll]
  | x :: r => by have := bulk_one x; have := bulk_all r; simp only [Rows.uptoBulkAll, List.length_cons]; omega
theorem bulk_len {P : Program} {t e : TypeId} (ht : P.underlying t = some (.slice e)) {H : Type} {enc : TypeId × Value → H} {W : World} {base : Nat} {spare : Nat → Bool} {held : Bool} {A : Option Addr} {n c : Nat} {x : DataW H} {p : List MemPlace}
    (hx : DataW.Trod enc P W base spare held t (.slice A n c) x p) : n ≤ Rows.uptoBulk x := by
  obtain ⟨fuel, hf⟩ := hx
  rcases open_slice ht hf with ⟨h, _⟩ | ⟨a, len, cap, m, k, D, Pl, h, _, _, _, _, he, _⟩
  · simp [Value.cells] at h; omega
  · simp [Value.cells] at h
    obtain ⟨-, rfl, -⟩ := h
    have e : x = .slice ((List.range n).map D) ((List.range (m - n)).map fun j => D (n + j)) := congrArg Prod.fst he
    rw [e, Rows.uptoBulk]
    have := bulk_all ((List.range n).map D)
    rw [List.length_map, List.length_range] at this
    omega
theorem bulk_hk {H : Type} {l : List (DataW H)} (hk : Rows.uptoSmall H l = true) : Rows.uptoBulkAll l ≤ 1048576 := of_decide_eq_true hk
end Go.Proofs.Ytofgcacahfdjdaa
