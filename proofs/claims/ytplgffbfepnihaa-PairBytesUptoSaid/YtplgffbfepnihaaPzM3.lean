/- What the laws of this folder share, part 3: walks of functions over their Go text, and plain lemmas. Conditions: as each lemma says. -/
import Derived.Laws.MakeOwn
import Derived.BigQuiet
import Derived.Test.YtplgffbfepnihaaRows
import Derived.Sort.AssemblyPlain
import Derived.Sort.WalkA
import Derived.Deep.CutBlock
import Derived.Lib.Hide
import Derived.Sort.WalkB3
import Derived.Sort.WalkB12
import Derived.Outline
import Derived.Sort.WalkA6
import Derived.Deep.DeepCutAuto
import Derived.Sort.WalkC4
import Derived.Sort.Walk7a
import Derived.Sort.LotD2
import Derived.Sort.LotD3
import Derived.Sort.LotB
import Derived.Sort.LotC
import Derived.Deep.LoopGhost
import Derived.Maps.RangeWalk
import Derived.Maps.OwnSet
import Derived.Maps.OwnOps
import Derived.Maps.Views
import Derived.WalkKit
import Derived.WalkMore
import Derived.StillTail
import Derived.Test.YtplgffbfepnihaaProg
import Derived.Below
import Derived.Deep.Draws
import Derived.Deep.AppendLies
import Derived.Maps.AppendAt
import Derived.OwnWalk
import Derived.Laws.BytesArg
import Derived.Laws.OwnMore
import Derived.Deep.OwnRows
import Derived.Tactics
import Derived.Lib.ConvBytes
import Derived.Laws.Slices
import Derived.KernelRfl
import Derived.RowKit3
import Derived.Deep.QuietTactic
import Derived.WideLaws
import Derived.Deep.RegionHeld3
import Derived.Laws.Rows
import Derived.Lib.AppendStr
import Derived.ArgAppend
import Derived.Laws.IdiomCopy
import Derived.OrdersHeld
import Derived.Laws.BitsLemmas
import Derived.RowKit
import Derived.Test.YtplgffbfepnihaaPzM2
set_option linter.unusedVariables false
set_option linter.unusedSimpArgs false
namespace Go.Proofs.Ytplgffbfepnihaa
open Go.RowKit Go.Proofs.YtplgffbfepnihaaW.PrintWords Go.Proofs.YtplgffbfepnihaaW.PrintLast Go.Proofs.YtplgffbfepnihaaW.PrintMore Go.Proofs.Ytplgffbfepnihaa.Pure Go.Proofs.Ytplgffbfepnihaa.Hi Go.Proofs.Ytplgffbfepnihaa.Vt
def riseGo (b : List Int) : Nat → Nat → List Int → Option (List Int × Nat)
 | 0, p, acc => some (acc, p)
 | c + 1, p, acc => match numAt b (p : Int) with
  | none => none
  | some (v, q) => if acc.length = 0 then riseGo b c q [(v : Int)] else
   if rd acc ((acc.length - 1 : Nat) : Int) = 18446744073709551615 ∨ (v : Int) > 18446744073709551615 - rd acc ((acc.length - 1 : Nat) : Int) - 1 then none else riseGo b c q (acc ++ [(v : Int) + (rd acc ((acc.length - 1 : Nat) : Int) + 1)])
def riseAt (b : List Int) (a : Int) (most : Nat) : Option (List Int × Nat) := match numAt b a with
 | none => none
 | some (n, p) => if n > most ∨ n > b.length - p then none else riseGo b n p []
theorem numGo_at (b : List Int) : ∀ (r p acc v q : Nat), numGo b r p acc = some (v, q) → p < q ∧ q ≤ b.length := by
 intro r
 induction r with
 | zero => intro p acc v q h; simp [numGo] at h
 | succ r ih =>
  intro p acc v q h; rw [numGo] at h; split at h
  case isTrue hp =>
   split at h
   ·cases h
   ·split at h
    ·split at h
     ·cases h
     ·injection h with h; injection h with _ h; omega
    ·have := ih _ _ _ _ h; omega
  case isFalse => cases h
theorem numGo_small {b : List Int} (hb : WBy b) : ∀ (r i p acc v q : Nat), r + i = 10 → acc < 2 ^ (7 * i) → numGo b r p acc = some (v, q) → v < 18446744073709551616 := by
 intro r
 induction r with
 | zero => intro i p acc v q _ _ h; simp [numGo] at h
 | succ r ih =>
  intro i p acc v q hi ha h; rw [numGo] at h; split at h
  case isTrue hp =>
   obtain ⟨x, hx, hx2⟩ := rd_byte hb hp; rw [hx, Int.toNat_natCast, show 9 - r = i by omega] at h; split at h
   ·cases h
   case isFalse h1 =>
    have h9 : i = 9 → x ≤ 1 := fun e => by
     rcases Nat.lt_or_ge 1 x with c | c
     ·exact absurd ⟨zk6, c⟩ h1
     ·exact c
    have ns := next_small acc x i ha zk6 h9; split at h
    case isTrue hlt =>
     split at h
     ·cases h
     ·injection h with h
      injection h with h _
      rw [show x % 128 = x by omega] at ns; omega
    case isFalse hge =>
     rcases Nat.lt_or_ge i 9 with d | d
     ·exact ih (i + 1) _ _ _ _ zk6 ns.1 h
     ·have := h9 zk6; omega
  case isFalse => cases h
theorem numAt_at {b : List Int} (hb : WBy b) {a : Int} {v q : Nat} (h : numAt b a = some (v, q)) : 0 ≤ a ∧ a < q ∧ q ≤ b.length ∧ v < 18446744073709551616 := by
 unfold numAt at h; split at h
 ·cases h
 ·have := numGo_at b _ _ _ _ _ h; have := numGo_small hb 10 0 _ _ _ _ zk6 zk47 h; omega
def RisePost (o : Option (List Int × Nat)) (w : World) (e : Ending) (w' : World) : Prop :=
 Below w.heap.size w w' ∧ (∀ l q, o = some (l, q) → ∃ r, e = .returned (.tuple #[r, .int .i64 (q : Int), .bool true]) ∧ Kd.R (Kd.int .u64) 41 w' w.heap.size (fun _ => True) r l) ∧ (o = none → e = .returned (.tuple #[.slice none 0 0, .int .i64 0, .bool false]))
theorem RisePost.no {o : Option (List Int × Nat)} {w w' : World} (h : o = none) (hb : Below w.heap.size w w') : RisePost o w (.returned (.tuple #[.slice none 0 0, .int .i64 0, .bool false])) w' :=
 ⟨hb, (fun l q e => by rw [h] at e; cases e), fun _ => rfl⟩
theorem vget_any {A : Option Addr} {c : Nat} {b : List Int} (hb : WBy b) (a : Int) {W : World} (hC : Kd.C (Kd.int .u8) W A b.length b) (hc : b.length ≤ c) {v n : Int} {ok : Bool} (h : getR (numAt b a) = (v, n, ok)) :
  Calls Try.prog 72 #[.slice A b.length c, .int .i64 a] W fun e w' => e = .returned (.tuple #[.int .u64 v, .int .i64 n, .bool ok]) ∧ Below W.heap.size W w' :=
 (vint_Get.calls 40 A c b a v n ok W hC hc (by rw [vget_eq hb a, h])).mono fun _ _ h => ⟨h.1, h.2.below⟩
theorem info64 : (Try.prog.info? 41).map (fun i => (i.zero, i.size, i.bytes)) = some (some (.int .u64 0), 1, 8) := by kernel_rfl
theorem make64 (n : Nat) (hn : n ≤ 1000000) (W : World) : Sem.run Try.prog (Instr.makeSlice 40 (.int .i64 0) (.int .i64 (n : Int))) W = .ok (.slice (some ⟨W.heap.size, 0, none⟩) 0 n) (W.alloc (.cells (madeCells (Value.cells (.int .u64 0)) n) 41)) := by
 obtain ⟨i, hi, hzz⟩ := Option.map_eq_some_iff.1 info64; simp only [Prod.mk.injEq] at hzz; obtain ⟨hz0, hz1, hz2⟩ := hzz; have h := run_make (P := Try.prog) W 40 41 i (.int .u64 0) zk11 hi hz0 .i64 .i64 0 n (Int.le_refl _) zk6 (by rw [hz2]; omega) zk6; rw [hz1, Int.toNat_natCast, Nat.mul_one] at h; exact h
theorem made64 (n : Nat) (hn : n ≤ 1000000) {W : World} {base : Nat} (hb : base ≤ W.heap.size) : Kd.R (Kd.int .u64) 41 (W.alloc (.cells (madeCells (Value.cells (.int .u64 0)) n) 41)) base (fun _ => True) (.slice (some ⟨W.heap.size, 0, none⟩) 0 n) [] :=
 ⟨fun _ _ => trivial, [], World.ownsRow_made W _ n hb (by simp [maxLen]; omega) (by rw [size_madeCells]; exact (Nat.mul_one n).symm), Reps.none _ _⟩
set_option maxHeartbeats 8000000 in
set_option maxRecDepth 100000 in
theorem getRise_any {A : Option Addr} {c : Nat} {b : List Int} (hb : WBy b) (a : Int) (most : Nat) (hm : most ≤ 1000000) {w : World} (hC : Kd.C (Kd.int .u8) w A b.length b) (hc : b.length ≤ c) (hl : b.length ≤ 140737488355328) :
  Calls Try.prog 64 #[.slice A b.length c, .int .i64 a, .int .i64 (most : Int)] w (RisePost (riseAt b a most) w) := by
 cases h0 : numAt b a with
 | none =>
  have HG := Lib.hid (vget_any hb a hC hc (v := 0) (n := 0) (ok := false) (by simp [h0, getR])); have HE := Lib.hid (show riseAt b a most = none by unfold riseAt; rw [h0]); clear h0 hC hc hb; go_enter Try.func64, Try.ntmps64; (go_wp2_with (go_at_call 72; (with_reducible refine HG.out.mono ?_); rintro e w1 ⟨rfl, hb1⟩; have HB := Lib.hid hb1; clear hb1 HG)); go_ret3
  exact RisePost.no HE.out HB.out
 | some x =>
  obtain ⟨n, p⟩ := x; obtain ⟨ha0, hap, hpl, hn64⟩ := numAt_at hb h0; have HG := Lib.hid (vget_any hb a hC hc (v := n) (n := p) (ok := true) (by simp [h0, getR])); have HB := Lib.hid hb; have HC := Lib.hid hC; have HCL := Lib.hid hc; by_cases hnm : n > most
  ·have HE := Lib.hid (show riseAt b a most = none by unfold riseAt; rw [h0]; simp [hnm])
   have e1 : decide ((most : Int) < (n : Int)) = true := decide_eq_true zk6; have e1b : decide (most < n) = true := decide_eq_true hnm; clear h0 hC hc hb; go_enter Try.func64, Try.ntmps64; (go_wp2_with (go_at_call 72; (with_reducible refine HG.out.mono ?_); rintro e w1 ⟨rfl, hb1⟩; have HB1 := Lib.hid hb1; clear hb1 HG)); go_ret3
   exact RisePost.no HE.out HB1.out
  ·have e1 : decide ((most : Int) < (n : Int)) = false := decide_eq_false zk6
   have e1b : decide (most < n) = false := decide_eq_false hnm; have e3 : ((b.length : Int) - (p : Int)) = ((b.length - p : Nat) : Int) := zk6
   by_cases hnl : n > b.length - p
   ·have HE := Lib.hid (show riseAt b a most = none by unfold riseAt; rw [h0]; simp [hnl])
    have e2 : decide (((b.length - p : Nat) : Int) < (n : Int)) = true := decide_eq_true zk6; have e2b : decide (b.length - p < n) = true := decide_eq_true hnl; clear h0 hC hc hb; go_enter Try.func64, Try.ntmps64; (go_wp2_with (go_at_call 72; (with_reducible refine HG.out.mono ?_); rintro e w1 ⟨rfl, hb1⟩; have HB1 := Lib.hid hb1; clear hb1 HG)); go_ret3
    exact RisePost.no HE.out HB1.out
   ·have HE := Lib.hid (show riseAt b a most = riseGo b n p [] by unfold riseAt; rw [h0]; simp [hnl, hnm])
    have e2 : decide (((b.length - p : Nat) : Int) < (n : Int)) = false := decide_eq_false zk6; have e2b : decide (b.length - p < n) = false := decide_eq_false hnl; have hmk := make64 n zk6; clear h0 hC hc hb; go_enter Try.func64, Try.ntmps64; (go_wp2_with (go_at_call 72; (with_reducible refine HG.out.mono ?_); rintro e w1 ⟨rfl, hb1⟩; have HB1 := Lib.hid hb1; clear hb1 HG)); rotate_left
    case _ =>
     go_loopw [1, 11, 50] (fun v1 v11 v50 wr => ∃ (i p' : Nat) (acc : List Int), v50 = .int .i64 (i : Int) ∧ v1 = .int .i64 (p' : Int) ∧ i ≤ n ∧ acc.length = i ∧ Kd.R (Kd.int .u64) 41 wr w.heap.size (fun _ => True) v11 acc ∧ riseGo b n p [] = riseGo b (n - i) p' acc ∧ (∀ x ∈ acc, 0 ≤ x ∧ x < 18446744073709551616) ∧ Below w.heap.size w wr) (fun _ _ v50 _ => n - (intOf v50).toNat)
     case atStart => exact ⟨0, p, [], rfl, rfl, Nat.zero_le _, rfl, made64 n zk6 HB1.out.size, rfl, (fun x hx => by cases hx), below_alloc HB1.out _⟩
     case round =>
      obtain ⟨i, p', acc, rfl, rfl, hi, hai, hR, heq, hac, hbw⟩ := hrel; obtain ⟨A1, c1, rfl, hcc, hC1⟩ := Kd.R_reads hR; have HR := Lib.hid hR; have HBW := Lib.hid hbw; have HEQ := Lib.hid heq; have HAC := Lib.hid hac; have HC1 := Lib.hid hC1; clear hR hbw heq hac hC1; by_cases hin : i < n
      ·have e5 : decide ((i : Int) < (n : Int)) = true := decide_eq_true zk6
       have e5b : decide (i < n) = true := decide_eq_true hin; obtain ⟨m, hm2⟩ : ∃ m, n - i = m + 1 := ⟨n - i - 1, zk6⟩
       have hgo := HEQ.out; rw [hm2, riseGo] at hgo; have hCr := Kd.C_below HC.out HBW.out; have HI := Lib.hid (show acc.length = i ∧ i < n ∧ n ≤ 1000000 by omega)
       cases hq : numAt b (p' : Int) with
       | none =>
        have HQ := Lib.hid (vget_any HB.out (p' : Int) hCr HCL.out (v := 0) (n := 0) (ok := false) zk182); have HN := Lib.hid (show riseAt b a most = none by rw [HE.out, hgo, hq]); clear hgo hCr hq; (go_wp2_with (go_at_call 72; (with_reducible refine HQ.out.mono ?_); rintro e w3 ⟨rfl, hb3⟩; have HB3 := Lib.hid hb3; clear hb3 HQ)); go_ret3
        exact zk248
       | some y =>
        obtain ⟨v, q⟩ := y; have hv := numAt_at HB.out hq; have HQ := Lib.hid (vget_any HB.out (p' : Int) hCr HCL.out (v := v) (n := q) (ok := true) zk182); rw [hq] at hgo; simp only at hgo; by_cases hi0 : i = 0
        ·subst hi0
         obtain rfl : acc = [] := List.eq_nil_of_length_eq_zero hai; have e6 : decide ((0 : Int) < ((0 : Nat) : Int)) = false := rfl; have HN := Lib.hid (show riseGo b n p [] = riseGo b (n - (0 + 1)) q ([] ++ [(v : Int)]) by rw [hgo]; simp only [List.length_nil, if_true, List.nil_append]; rw [show n - (0 + 1) = m by omega]); clear hgo hCr hq; (go_wp2_with (first | (go_at_call 72; (with_reducible refine HQ.out.mono ?_); rintro e w3 ⟨rfl, hb3⟩; have HB3 := Lib.hid hb3; clear hb3 HQ) | ((with_reducible refine gate_builtin (b := .append) (xs := #[.tmp 82, .tmp 84]) rfl ?_); at_builtin; refine Kd.R_append (Kd.int .u64) (w0 := w) w.heap.size rfl (.tmp 82) (.tmp 84) 40 41 (.int .u64 0) 8 rfl Try.underlying40 info64 rfl zk47 zk6 (.slice A1 0 c1) [] ((v : Int)) [.int .u64 ((v : Int))] (fun _ => True) (fun _ => False) rfl rfl rfl (fun _ hk => hk.elim) (fun _ _ => trivial) (Kd.R_below HR.out HB3.out) (below_then HBW.out HBW.out.size HB3.out) (below_then HBW.out HBW.out.size HB3.out).size zk97 ?_; intro v5 w5 ho5 hb5 hg5 hat5; have HO5 := Lib.hid ho5; have HB5 := Lib.hid hb5; clear ho5 hb5 hg5 hat5))); go_roundw
         case rel => exact ⟨1, q, [] ++ [(v : Int)], zk176, rfl, zk97, rfl, HO5.out, HN.out, (fun x hx => by simp at hx; subst hx; omega), HB5.out⟩
         case measure => have := HI.out; simp [intOf]; omega
        ·have e6 : decide ((0 : Int) < (i : Int)) = true := decide_eq_true zk6
         have e6b : decide (0 < i) = true := decide_eq_true zk6; obtain ⟨ad, hax, q0⟩ := Kd.at_int HC1.out (((i - 1 : Nat) : Int)) zk6 zk6; rw [Int.toNat_natCast] at q0; have ei : (i : Int) - 1 = ((i - 1 : Nat) : Int) := zk6
         have hin2 : i - 1 < acc.length := zk6
         have hrd : rd acc ((i - 1 : Nat) : Int) = acc[i - 1] := by simp [rd, List.getD, List.getElem?_eq_getElem hin2]
         have hu := HAC.out acc[i - 1] (List.getElem_mem _); rw [← hrd] at hu; rw [hai, if_neg hi0] at hgo; clear hai; obtain ⟨L, hL⟩ : ∃ L, rd acc ((i - 1 : Nat) : Int) = L := ⟨_, rfl⟩
         rw [hL] at hu hgo q0; have wL : IntKind.u64.wrap (18446744073709551615 - L) = 18446744073709551615 - L := zk144
         by_cases hLm : L = 18446744073709551615
         ·have HN := Lib.hid (show riseAt b a most = none by rw [HE.out, hgo, if_pos (.inl hLm)])
          subst hLm; clear hgo hCr hq hrd hL hu; subst hax; (go_wp2_with (go_at_call 72; (with_reducible refine HQ.out.mono ?_); rintro e w3 ⟨rfl, hb3⟩; have HB3 := Lib.hid hb3; have p0 := pw_cell_below hb3 q0; clear hb3 HQ q0)); go_ret3
          exact zk248
         ·have wL2 : IntKind.u64.wrap (18446744073709551615 - L - 1) = 18446744073709551615 - L - 1 := by rw [IntKind.wrap_u64]; omega
          have e7 : decide (L = 18446744073709551615) = false := decide_eq_false hLm; by_cases hov : (v : Int) > 18446744073709551615 - L - 1
          ·have HN := Lib.hid (show riseAt b a most = none by rw [HE.out, hgo, if_pos (.inr hov)])
           have e8 : decide (18446744073709551615 - L - 1 < (v : Int)) = true := decide_eq_true hov; clear hgo hCr hq hrd hL; subst hax; (go_wp2_with (go_at_call 72; (with_reducible refine HQ.out.mono ?_); rintro e w3 ⟨rfl, hb3⟩; have HB3 := Lib.hid hb3; have p0 := pw_cell_below hb3 q0; clear hb3 HQ q0)); go_ret3
           exact zk248
          ·have e8 : decide (18446744073709551615 - L - 1 < (v : Int)) = false := decide_eq_false hov
           have wS : IntKind.u64.wrap (L + 1) = L + 1 := zk144
           have wT : IntKind.u64.wrap ((v : Int) + (L + 1)) = (v : Int) + (L + 1) := zk144
           have HN := Lib.hid (show riseGo b n p [] = riseGo b (n - (i + 1)) q (acc ++ [(v : Int) + (L + 1)]) by rw [hgo, if_neg (fun c => c.elim hLm hov)]; rw [show n - (i + 1) = m by omega]); have HU := Lib.hid (show 0 ≤ (v : Int) + (L + 1) ∧ (v : Int) + (L + 1) < 18446744073709551616 by omega); clear hgo hCr hq hrd hL; subst hax; (go_wp2_with (first | (go_at_call 72; (with_reducible refine HQ.out.mono ?_); rintro e w3 ⟨rfl, hb3⟩; have HB3 := Lib.hid hb3; have p0 := pw_cell_below hb3 q0; clear hb3 HQ q0) | ((with_reducible refine gate_builtin (b := .append) (xs := #[.tmp 82, .tmp 84]) rfl ?_); at_builtin; refine Kd.R_append (Kd.int .u64) (w0 := w) w.heap.size rfl (.tmp 82) (.tmp 84) 40 41 (.int .u64 0) 8 rfl Try.underlying40 info64 rfl zk47 zk6 (.slice (some ad) acc.length c1) acc ((v : Int) + (L + 1)) [.int .u64 ((v : Int) + (L + 1))] (fun _ => True) (fun _ => False) rfl rfl rfl (fun _ hk => hk.elim) (fun _ _ => trivial) (Kd.R_below HR.out HB3.out) (below_then HBW.out HBW.out.size HB3.out) (below_then HBW.out HBW.out.size HB3.out).size zk97 ?_; intro v5 w5 ho5 hb5 hg5 hat5; have HO5 := Lib.hid ho5; have HB5 := Lib.hid hb5; clear ho5 hb5 hg5 hat5))); go_roundw
           case rel => exact ⟨i + 1, q, acc ++ [(v : Int) + (L + 1)], zk176, rfl, zk97, zk199, HO5.out, HN.out, (fun x hx => by rcases List.mem_append.1 hx with c | c; exact HAC.out x c; simp at c; subst c; exact HU.out), HB5.out⟩
           case measure => have := HI.out; simp [intOf]; omega
      ·have e5 : decide ((i : Int) < (n : Int)) = false := decide_eq_false zk6
       have e5b : decide (i < n) = false := decide_eq_false hin; obtain rfl : i = n := zk6
       have HN := Lib.hid (show riseAt b a most = some (acc, p') by rw [HE.out, HEQ.out, Nat.sub_self]; rfl); go_wp2; go_ret3
       exact ⟨HBW.out, (fun l r e => by rw [HN.out] at e; cases e; exact ⟨_, rfl, HR.out⟩), fun e => by rw [HN.out] at e; cases e⟩
end Go.Proofs.Ytplgffbfepnihaa
namespace Go.Proofs.Ytplgffbfepnihaa.Pure
open Go.RowKit Go.Proofs.YtplgffbfepnihaaW.PrintWords Go.Proofs.YtplgffbfepnihaaW.PrintLast Go.Proofs.YtplgffbfepnihaaW.PrintMore Go.Proofs.Ytplgffbfepnihaa.Hi Go.Proofs.Ytplgffbfepnihaa.Vt
theorem encL_app (a b : List Nat) : encL (a ++ b) = encL a ++ encL b := by simp [encL]
theorem encL_least (l : List Nat) : l.length ≤ (encL l).length := by
 induction l with
 | nil => simp
 | cons n l ih =>
  have := encN_pos n; have e : encL (n :: l) = encN n ++ encL l := by simp [encL]
  rw [e, List.length_cons, List.length_append]; omega
theorem diffs_split (l : List Int) (i m : Nat) : ∃ r, diffs l (i + m) = diffs l i ++ r := by
 unfold diffs; rw [List.range_add, List.map_append]; exact ⟨_, rfl⟩
theorem wrapU_in {x : Int} (h0 : 0 ≤ x) (h1 : x < 18446744073709551616) : IntKind.u64.wrap x = x := by
 have h : IntKind.u64.wrap x = x % 18446744073709551616 := by first | rfl | simp [IntKind.wrap]
 rw [h]; omega
theorem rd_get (l : List Int) {i : Nat} (h : i < l.length) : rd l (i : Int) = l[i] := by simp [rd, List.getD, List.getElem?_eq_getElem h]
def RiseL (l : List Int) : Prop := (∀ x ∈ l, 0 ≤ x ∧ x < 18446744073709551616) ∧ ∀ i, i + 1 < l.length → rd l (i : Int) < rd l ((i + 1 : Nat) : Int)
theorem riseGo_enc (ls pre ys : List Int) (h : RiseL ls) : ∀ m i, i + m = ls.length →
  riseGo (pre ++ encL (diffs ls ls.length) ++ ys) m (pre.length + (encL (diffs ls i)).length) (ls.take i) = some (ls, pre.length + (encL (diffs ls ls.length)).length) := by
 intro m
 induction m with
 | zero =>
  intro i hi; obtain rfl : i = ls.length := zk6
  rw [riseGo, List.take_length]
 | succ m ih =>
  intro i hi; have hil : i < ls.length := zk6
  have hq := ih (i + 1) zk6; obtain ⟨rest, hrest⟩ := diffs_split ls (i + 1) m; rw [show i + 1 + m = ls.length by omega] at hrest; have hb1 := h.1 ls[i] (List.getElem_mem _); rw [← rd_get ls hil] at hb1; have hds := diffs_succ ls i; have htk : ls.take (i + 1) = ls.take i ++ [rd ls (i : Int)] := by rw [rd_get ls hil, List.take_append_getElem]
  have hw := wrapU (rd ls (i : Int) - prevN ls i); have hna := numAt_enc (IntKind.u64.wrap (rd ls (i : Int) - prevN ls i)).toNat zk6 (pre ++ encL (diffs ls i)) (encL rest ++ ys)
  have hbb : pre ++ encL (diffs ls i) ++ encN (IntKind.u64.wrap (rd ls (i : Int) - prevN ls i)).toNat ++ (encL rest ++ ys) = pre ++ encL (diffs ls ls.length) ++ ys := by
   rw [hrest, hds, encL_app, encL_snoc]; simp [List.append_assoc]
  rw [hbb, List.length_append] at hna; rw [hds, encL_snoc, List.length_append, ← Nat.add_assoc] at hq; rw [riseGo, hna]; simp only
  cases i with
  | zero =>
   have e0 : IntKind.u64.wrap (rd ls ((0 : Nat) : Int) - prevN ls 0) = rd ls ((0 : Nat) : Int) := by
    rw [show prevN ls 0 = 0 from rfl, Int.sub_zero]; exact wrapU_in hb1.1 hb1.2
   rw [htk] at hq; rw [e0] at hq ⊢; rw [if_pos zk56]; rw [List.take_zero, List.nil_append] at hq; rw [show ((rd ls ((0 : Nat) : Int)).toNat : Int) = rd ls ((0 : Nat) : Int) by omega]; exact hq
  | succ j =>
   have hlt := h.2 j hil; have hb0 := h.1 ls[j] (List.getElem_mem zk6); rw [← rd_get ls (by omega : j < ls.length)] at hb0
   have e0 : IntKind.u64.wrap (rd ls ((j + 1 : Nat) : Int) - prevN ls (j + 1)) = rd ls ((j + 1 : Nat) : Int) - rd ls (j : Int) - 1 := by
    rw [show prevN ls (j + 1) = IntKind.u64.wrap (rd ls (j : Int) + 1) from rfl, wrapU_in (x := rd ls (j : Int) + 1) zk6 zk6, wrapU_in zk6 zk6]; omega
   have hlen : (ls.take (j + 1)).length = j + 1 := zk161
   have hlast : rd (ls.take (j + 1)) ((j : Nat) : Int) = rd ls (j : Int) := by
    simp [rd, List.getD, List.getElem?_take]
   rw [e0] at hq ⊢; rw [hlen, if_neg zk6, Nat.add_sub_cancel, hlast, if_neg zk6]; rw [show (((rd ls ((j + 1 : Nat) : Int) - rd ls (j : Int) - 1).toNat : Nat) : Int) + (rd ls (j : Int) + 1) = rd ls ((j + 1 : Nat) : Int) by omega, ← htk]; exact hq
theorem riseAt_enc (ls pre ys : List Int) (h : RiseL ls) (most : Nat) (hm : ls.length ≤ most) (hl : ls.length < 18446744073709551616) :
  riseAt (pre ++ (encN ls.length ++ encL (diffs ls ls.length)) ++ ys) (pre.length : Int) most = some (ls, pre.length + (encN ls.length ++ encL (diffs ls ls.length)).length) := by
 have h1 := numAt_enc ls.length hl pre (encL (diffs ls ls.length) ++ ys); have h2 := riseGo_enc ls (pre ++ encN ls.length) ys h ls.length 0 zk6; have e : pre ++ encN ls.length ++ (encL (diffs ls ls.length) ++ ys) = pre ++ (encN ls.length ++ encL (diffs ls ls.length)) ++ ys := by simp [List.append_assoc]
 have e2 : pre ++ encN ls.length ++ encL (diffs ls ls.length) ++ ys = pre ++ (encN ls.length ++ encL (diffs ls ls.length)) ++ ys := by simp [List.append_assoc]
 have hle := encL_least (diffs ls ls.length); rw [diffs_len] at hle; rw [e] at h1; rw [e2] at h2; unfold riseAt; rw [h1]; simp only; rw [if_neg zk147]; have e3 : (encL (diffs ls 0)).length = 0 := rfl; rw [e3, List.take_zero, List.length_append, Nat.add_zero] at h2; rw [h2, List.length_append, Nat.add_assoc]
end Go.Proofs.Ytplgffbfepnihaa.Pure
namespace Go.Proofs.Ytplgffbfepnihaa.Pure
open Go.RowKit Go.Proofs.YtplgffbfepnihaaW.PrintWords Go.Proofs.YtplgffbfepnihaaW.PrintLast Go.Proofs.YtplgffbfepnihaaW.PrintMore Go.Proofs.Ytplgffbfepnihaa.Hi Go.Proofs.Ytplgffbfepnihaa.Vt
theorem dropB {l m : List Int} {i : Nat} (h : i < l.length) (h' : i < m.length) : l.drop i = m.drop i ↔ l[i] = m[i] ∧ l.drop (i + 1) = m.drop (i + 1) := by
 rw [List.drop_eq_getElem_cons h, List.drop_eq_getElem_cons h', List.cons.injEq]
theorem eqBy_go (l m : List Int) (hl : l.length = m.length) (hL : l.length < 9223372036854775807) : ∀ (n i : Nat), l.length - i = n → i ≤ l.length →
  slices_Equal_byte_byte.l0 (n + 1) l m (l.length : Int) (i : Int) = some (decide (l.drop i = m.drop i)) := by
 intro n
 induction n with
 | zero =>
  intro i h1 h2; rw [slices_Equal_byte_byte.l0, if_neg zk6, List.drop_eq_nil_of_le zk6, List.drop_eq_nil_of_le zk6]; rfl
 | succ n ih =>
  intro i h1 h2; have hw : wrap64 ((i : Int) + 1) = ((i + 1 : Nat) : Int) := zk154
  have hi : i < l.length := zk6
  have hm : i < m.length := zk6
  rw [slices_Equal_byte_byte.l0, if_pos zk6, if_pos zk6, if_pos zk6, if_pos zk6, rd_get l hi, rd_get m hm, hw]; by_cases c : l[i] = m[i]
  ·rw [if_pos c, ih (i + 1) zk6 zk6]; congr 1; exact decide_eq_decide.2 ⟨fun h => (dropB hi hm).2 ⟨c, h⟩, fun h => ((dropB hi hm).1 h).2⟩
  ·rw [if_neg c, decide_eq_false (fun h => c ((dropB hi hm).1 h).1)]
theorem eqBy (l m : List Int) (hL : l.length < 9223372036854775807) : slices_Equal_byte_byte.f (l.length + 1) l m = some (decide (l = m)) := by
 unfold slices_Equal_byte_byte.f; by_cases c : (l.length : Int) = (m.length : Int)
 ·rw [if_pos c]; exact eqBy_go l m zk6 hL l.length 0 zk6 zk6
 ·rw [if_neg c, decide_eq_false (fun h => c (by rw [h]))]
theorem rrise_bad (k : Nat) (hk : 2 ≤ k) (n : Int) (acc : List Int) (i : Int) (b : List Int) (q : Int) : varveref04_R_Rise.l0 k n acc i b q true = some ([], q, true) := by
 obtain ⟨k, rfl⟩ : ∃ m, k = m + 2 := ⟨k - 2, zk6⟩
 rw [varveref04_R_Rise.l0]; split
 ·rw [Bool.not_true, varveref04_R_Rise.j1, if_neg zk47, if_pos rfl]
 ·rw [varveref04_R_Rise.j1, if_neg zk47, if_pos rfl]
theorem rrise_go {b : List Int} (hb : WBy b) (n : Nat) (hn : n ≤ 1000000) : ∀ (c p : Nat) (acc : List Int) (k : Nat), acc.length + c = n → (∀ x ∈ acc, 0 ≤ x ∧ x < 18446744073709551616) → 2 * c + 44 ≤ k →
  (∀ l q, riseGo b c p acc = some (l, q) → varveref04_R_Rise.l0 k (n : Int) acc (acc.length : Int) b (p : Int) false = some (l, (q : Int), false)) ∧
  (riseGo b c p acc = none → ∃ q : Int, varveref04_R_Rise.l0 k (n : Int) acc (acc.length : Int) b (p : Int) false = some ([], q, true)) := by
 intro c
 induction c with
 | zero =>
  intro p acc k h _ hk; obtain ⟨k, rfl⟩ : ∃ m, k = m + 2 := ⟨k - 2, zk6⟩
  rw [varveref04_R_Rise.l0, if_neg zk6, varveref04_R_Rise.j1, if_neg zk47, if_neg zk47, riseGo]; exact ⟨fun l q e => by injection e with e; injection e with e1 e2; rw [e1, e2], fun e => by cases e⟩
 | succ c ih =>
  intro p acc k h hac hk; obtain ⟨k, rfl⟩ : ∃ m, k = m + 2 := ⟨k - 2, zk6⟩
  rw [varveref04_R_Rise.l0, if_pos zk6, Bool.not_false, varveref04_R_Rise.j1, if_pos rfl]; obtain ⟨g1, g2⟩ := rnum_eq hb (p : Int) k zk6; have hw0 : acc.length ≠ 0 → wrap64 ((acc.length : Int) - 1) = ((acc.length - 1 : Nat) : Int) := fun hh => zk154
  have hw1 : wrap64 ((acc.length : Int) + 1) = ((acc.length + 1 : Nat) : Int) := zk154
  have hLb : acc.length ≠ 0 → 0 ≤ rd acc ((acc.length - 1 : Nat) : Int) ∧ rd acc ((acc.length - 1 : Nat) : Int) < 18446744073709551616 := fun hh => by
   rw [rd_get acc (by omega : acc.length - 1 < acc.length)]; exact hac _ (List.getElem_mem _)
  rw [riseGo]
  cases hq : numAt b (p : Int) with
  | none =>
   obtain ⟨q, e⟩ := g2 hq; rw [e, Option.bind_some]; refine ⟨fun l q h => by simp at h, fun _ => ?_⟩; simp only; by_cases c0 : acc.length = 0
   ·rw [if_pos zk6, if_pos zk6]; exact ⟨q, rrise_bad k zk6 _ _ _ _ _⟩
   ·rw [if_neg zk6, hw0 c0, if_pos zk6, if_pos zk6]
    split
    ·exact ⟨q, rfl⟩
    ·rw [if_pos zk6]; exact ⟨q, rrise_bad k zk6 _ _ _ _ _⟩
  | some x =>
   obtain ⟨v, q⟩ := x; have hv := numAt_at hb hq; rw [g1 v q hq, Option.bind_some]; simp only; by_cases c0 : acc.length = 0
   ·obtain rfl : acc = [] := List.eq_nil_of_length_eq_zero c0; have hi := ih q ([] ++ [(v : Int)]) k (by simp at h ⊢; omega) (fun x hx => by simp at hx; subst hx; omega) zk6; rw [if_pos zk6, if_pos zk56, if_pos zk56, hw1]; exact hi
   ·have hb0 := hLb c0
    rw [if_neg c0, if_neg (show ¬ ((acc.length : Int) = 0) by omega), hw0 c0, if_pos (show (0 : Int) ≤ ((acc.length - 1 : Nat) : Int) by omega), if_pos (show ((acc.length - 1 : Nat) : Int) < (acc.length : Int) by omega), wrapU_in (x := 18446744073709551615 - _) zk6 zk6]; by_cases cv : (v : Int) ≥ 18446744073709551615 - rd acc ((acc.length - 1 : Nat) : Int)
    ·rw [if_pos cv, if_pos (show rd acc ((acc.length - 1 : Nat) : Int) = 18446744073709551615 ∨ (v : Int) > 18446744073709551615 - rd acc ((acc.length - 1 : Nat) : Int) - 1 by omega)]; exact ⟨fun l q h => by simp at h, fun _ => ⟨_, rfl⟩⟩
    ·rw [if_neg cv, if_neg (show ¬ (rd acc ((acc.length - 1 : Nat) : Int) = 18446744073709551615 ∨ (v : Int) > 18446744073709551615 - rd acc ((acc.length - 1 : Nat) : Int) - 1) by omega), if_pos (show acc.length < 17592186044416 by omega), wrapU_in (x := _ + (v : Int)) zk6 zk6, wrapU_in (x := _ + 1) zk6 zk6, hw1, show rd acc ((acc.length - 1 : Nat) : Int) + (v : Int) + 1 = (v : Int) + (rd acc ((acc.length - 1 : Nat) : Int) + 1) by omega]; have hi := ih q (acc ++ [(v : Int) + (rd acc ((acc.length - 1 : Nat) : Int) + 1)]) k (by simp; omega) (fun x hx => by rcases List.mem_append.1 hx with d | d; exact hac x d; simp at d; subst d; omega) zk6; rw [List.length_append, List.length_singleton] at hi; exact hi
theorem rrise_eq {b : List Int} (hb : WBy b) (a : Int) (most : Nat) (hm : most ≤ 1000000) : ∃ k,
  (∀ l q, riseAt b a most = some (l, q) → varveref04_R_Rise.f k b a false (most : Int) = some (l, (q : Int), false)) ∧
  (riseAt b a most = none → ∃ q : Int, varveref04_R_Rise.f k b a false (most : Int) = some ([], q, true)) := by
 refine ⟨3000000, ?_⟩; obtain ⟨g1, g2⟩ := rnum_eq hb a 3000000 zk47; unfold varveref04_R_Rise.f varveref04_R_Count.f riseAt; have hwm : IntKind.u64.wrap (most : Int) = (most : Int) := wrapU_in zk6 zk6; have hbl := hb.1
 cases hq : numAt b a with
 | none =>
  obtain ⟨q, e⟩ := g2 hq; rw [e, Option.bind_some, if_pos rfl, Option.bind_some]; exact ⟨fun l q h => by simp at h, fun _ => ⟨q, rrise_bad _ zk47 _ _ _ _ _⟩⟩
 | some x =>
  obtain ⟨n, p⟩ := x; have hv := numAt_at hb hq
  have hwl : IntKind.u64.wrap (wrap64 ((b.length : Int) - (p : Int))) = ((b.length - p : Nat) : Int) := by
   rw [show wrap64 ((b.length : Int) - (p : Int)) = ((b.length - p : Nat) : Int) by unfold wrap64; omega]; exact wrapU_in zk6 zk6
  rw [g1 n p hq, Option.bind_some]; simp only; rw [if_neg (show ¬ (false = true) by decide), if_neg (show ¬ ((most : Int) < 0) by omega), hwm, hwl]; by_cases c1 : n > most
  ·rw [if_pos (show (n : Int) > (most : Int) by omega), if_pos (show n > most ∨ n > b.length - p from .inl c1), Option.bind_some]; exact ⟨fun l q h => by simp at h, fun _ => ⟨_, rrise_bad _ zk47 _ _ _ _ _⟩⟩
  ·rw [if_neg (show ¬ ((n : Int) > (most : Int)) by omega)]
   by_cases c2 : n > b.length - p
   ·rw [if_pos (show (n : Int) > ((b.length - p : Nat) : Int) by omega), if_pos (show n > most ∨ n > b.length - p from .inr c2), Option.bind_some]; exact ⟨fun l q h => by simp at h, fun _ => ⟨_, rrise_bad _ zk47 _ _ _ _ _⟩⟩
   ·rw [if_neg (show ¬ ((n : Int) > ((b.length - p : Nat) : Int)) by omega), if_neg (show ¬ (n > most ∨ n > b.length - p) by omega), Option.bind_some]
    have hw : wrap64 (n : Int) = (n : Int) := zk154
    simp only; rw [hw]; exact rrise_go hb n zk6 n p [] 3000000 zk56 (fun x hx => by cases hx) zk6
end Go.Proofs.Ytplgffbfepnihaa.Pure
namespace Go.Proofs.Ytplgffbfepnihaa.Pure
open Go.RowKit Go.Proofs.YtplgffbfepnihaaW.PrintWords Go.Proofs.YtplgffbfepnihaaW.PrintLast Go.Proofs.YtplgffbfepnihaaW.PrintMore Go.Proofs.Ytplgffbfepnihaa.Hi Go.Proofs.Ytplgffbfepnihaa.Vt
theorem rise_go (ls : List Int) (h : RiseL ls) (hn : ls.length ≤ 1000000) : ∀ (m i : Nat), i + m = ls.length →
  varveref04_Rise.l0 (m + 1) ls (encN ls.length ++ encL (diffs ls i)) (i : Int) = some (encN ls.length ++ encL (diffs ls ls.length)) := by
 intro m
 induction m with
 | zero =>
  intro i hi; obtain rfl : i = ls.length := zk6
  rw [varveref04_Rise.l0, if_neg zk6]
 | succ m ih =>
  intro i hi; have hil : i < ls.length := zk6
  have hw1 : wrap64 ((i : Int) + 1) = ((i + 1 : Nat) : Int) := zk154
  have hb1 := h.1 ls[i] (List.getElem_mem _); rw [← rd_get ls hil] at hb1; have hds := diffs_succ ls i; have hq := ih (i + 1) zk6; rw [hds, encL_snoc, ← List.append_assoc] at hq; have hl1 := encN_len ls.length zk6; have hl2 := encL_len (diffs ls i) (diffs_small ls i); rw [diffs_len] at hl2; have hl3 := encN_len (IntKind.u64.wrap (rd ls (i : Int) - prevN ls i)).toNat (by have := wrapU (rd ls (i : Int) - prevN ls i); omega); rw [varveref04_Rise.l0, if_pos (show (i : Int) < (ls.length : Int) by omega)]
  cases i with
  | zero =>
   have e0 : IntKind.u64.wrap (rd ls ((0 : Nat) : Int) - prevN ls 0) = rd ls ((0 : Nat) : Int) := by
    rw [show prevN ls 0 = 0 from rfl, Int.sub_zero]; exact wrapU_in hb1.1 hb1.2
   rw [e0] at hq hl3; rw [if_pos (show ((0 : Nat) : Int) = 0 from rfl), if_pos (show (0 : Int) < (ls.length : Int) by omega), varveref04_Put.f, if_pos (show 0 ≤ rd ls 0 ∧ rd ls 0 < 18446744073709551616 from hb1), Option.bind_some, if_pos (show (encN ls.length ++ encL (diffs ls 0)).length + (encN (rd ls 0).toNat).length < 140737488355328 by have hl4 : (encN (rd ls 0).toNat).length ≤ 10 := hl3; rw [List.length_append]; omega), hw1]; exact hq
  | succ j =>
   have hlt := h.2 j hil; have hb0 := h.1 ls[j] (List.getElem_mem zk6); rw [← rd_get ls (by omega : j < ls.length)] at hb0
   have e0 : IntKind.u64.wrap (rd ls ((j + 1 : Nat) : Int) - prevN ls (j + 1)) = rd ls ((j + 1 : Nat) : Int) - rd ls (j : Int) - 1 := by
    rw [show prevN ls (j + 1) = IntKind.u64.wrap (rd ls (j : Int) + 1) from rfl, wrapU_in (x := rd ls (j : Int) + 1) zk6 zk6, wrapU_in zk6 zk6]; omega
   have hwj : wrap64 (((j + 1 : Nat) : Int) - 1) = (j : Int) := zk154
   rw [e0] at hq hl3; rw [if_neg (show ¬ (((j + 1 : Nat) : Int) = 0) by omega), if_pos (show (0 : Int) ≤ ((j + 1 : Nat) : Int) by omega), hwj, if_pos (show (0 : Int) ≤ (j : Int) by omega), if_pos (show (j : Int) < (ls.length : Int) by omega), wrapU_in (x := rd ls ((j + 1 : Nat) : Int) - rd ls (j : Int)) zk6 zk6, wrapU_in zk6 zk6, varveref04_Put.f, if_pos (show 0 ≤ rd ls ((j + 1 : Nat) : Int) - rd ls (j : Int) - 1 ∧ rd ls ((j + 1 : Nat) : Int) - rd ls (j : Int) - 1 < 18446744073709551616 by omega), Option.bind_some, if_pos zk164, hw1]; exact hq
theorem rise_eq (ls : List Int) (h : RiseL ls) (hn : ls.length ≤ 1000000) : varveref04_Rise.f (ls.length + 1) ls = some (encN ls.length ++ encL (diffs ls ls.length)) := by
 have g := rise_go ls h hn ls.length 0 zk6; unfold varveref04_Rise.f; have hw : IntKind.u64.wrap (ls.length : Int) = (ls.length : Int) := wrapU_in zk6 zk6; rw [hw, varveref04_Put.f, if_pos zk6, Option.bind_some, Int.toNat_natCast]; rw [show diffs ls 0 = [] from rfl, show encL [] = [] from rfl, List.append_nil] at g; exact g
end Go.Proofs.Ytplgffbfepnihaa.Pure
namespace Go.Proofs.Ytplgffbfepnihaa.Pure
abbrev Asc (l : List Int) : Prop := l.Pairwise (· < ·)
theorem asc_ext : ∀ {l m : List Int}, Asc l → Asc m → (∀ x, x ∈ l ↔ x ∈ m) → l = m := by
 intro l
 induction l with
 | nil =>
  intro m _ _ h
  cases m with
  | nil => rfl
  | cons y r => exact absurd ((h y).mpr zk56) zk56
 | cons x r ih =>
  intro m hl hm h
  cases m with
  | nil => exact absurd ((h x).mp zk56) zk56
  | cons y s =>
   obtain ⟨l1, l2⟩ := List.pairwise_cons.mp hl; obtain ⟨m1, m2⟩ := List.pairwise_cons.mp hm
   have hxy : x = y := by
    rcases List.mem_cons.mp ((h x).mp zk56) with e | e
    ·exact e
    ·rcases List.mem_cons.mp ((h y).mpr zk56) with e2 | e2
     ·exact e2.symm
     ·have := m1 x e; have := l1 y e2; omega
   subst hxy; congr 1; refine ih l2 m2 fun z => ⟨fun hz => ?_, fun hz => ?_⟩
   ·rcases List.mem_cons.mp ((h z).mp (by simp [hz])) with e | e
    ·have := l1 z hz; omega
    ·exact e
   ·rcases List.mem_cons.mp ((h z).mpr (by simp [hz])) with e | e
    ·have := m1 z hz; omega
    ·exact e
def kins (h : Int) : List Int → List Int
 | [] => [h]
 | x :: r => if h < x then h :: x :: r else if h = x then x :: r else x :: kins h r
theorem mem_kins (h : Int) (l : List Int) (x : Int) : x ∈ kins h l ↔ x = h ∨ x ∈ l := by
 induction l with
 | nil => simp [kins]
 | cons y r ih =>
  unfold kins; split
  ·simp
  ·split
   ·rename_i e; subst e; simp
   ·simp only [List.mem_cons, ih]
    constructor
    ·rintro (e | e | e)
     ·exact .inr (.inl e)
     ·exact .inl e
     ·exact .inr (.inr e)
    ·rintro (e | e | e)
     ·exact .inr (.inl e)
     ·exact .inl e
     ·exact .inr (.inr e)
theorem asc_kins (h : Int) : ∀ {l : List Int}, Asc l → Asc (kins h l) := by
 intro l
 induction l with
 | nil => intro _; simp [kins]
 | cons y r ih =>
  intro hl; obtain ⟨l1, l2⟩ := List.pairwise_cons.mp hl; unfold kins; split
  ·refine List.pairwise_cons.mpr ⟨fun z hz => ?_, hl⟩
   rcases List.mem_cons.mp hz with e | e
   ·omega
   ·have := l1 z e; omega
  ·split
   ·exact hl
   ·refine List.pairwise_cons.mpr ⟨fun z hz => ?_, ih l2⟩
    rcases (mem_kins h r z).mp hz with e | e
    ·omega
    ·exact l1 z e
theorem kins_mem {h : Int} {l : List Int} (ha : Asc l) (hm : h ∈ l) : kins h l = l :=
 asc_ext (asc_kins h ha) ha fun x => by
  rw [mem_kins]; exact ⟨fun e => e.elim (fun e => by rw [e]; exact hm) id, .inr⟩
theorem kins_len {h : Int} : ∀ {l : List Int}, Asc l → h ∉ l → (kins h l).length = l.length + 1 := by
 intro l
 induction l with
 | nil => intro _ _; rfl
 | cons y r ih =>
  intro hl hn; obtain ⟨l1, l2⟩ := List.pairwise_cons.mp hl; unfold kins; split
  ·simp
  ·split
   ·rename_i e; subst e; simp at hn
   ·simp [ih l2 (fun h => hn (by simp [h]))]
def below (l : List Int) (x : Int) : Nat := (l.filter (fun y => decide (y < x))).length
theorem asc_take {l : List Int} (h : Asc l) (n : Nat) : Asc (l.take n) := h.sublist (List.take_sublist n l)
theorem nodup_le : ∀ {l m : List Int}, l.Nodup → (∀ x ∈ l, x ∈ m) → l.length ≤ m.length := by
 intro l
 induction l with
 | nil => intro m _ _; exact Nat.zero_le _
 | cons x r ih =>
  intro m hn h; obtain ⟨h1, h2⟩ := List.nodup_cons.mp hn; have hx := h x zk56; have := ih (m := m.erase x) h2 (fun z hz => (List.mem_erase_of_ne (by rintro rfl; exact h1 hz)).mpr (h z (by simp [hz]))); rw [List.length_erase_of_mem hx] at this; have := List.length_pos_of_mem hx; rw [List.length_cons]; omega
def khash (s : List Int) (h : Int) : List Int := (kins h s).take 1024
def kmany (s l : List Int) : List Int := l.foldl khash s
theorem asc_khash {s : List Int} (hs : Asc s) (h : Int) : Asc (khash s h) := asc_take (asc_kins h hs) 1024
theorem khash_len (s : List Int) (h : Int) : (khash s h).length ≤ 1024 := by unfold khash; rw [List.length_take]; omega
theorem kmany_snoc (s l : List Int) (h : Int) : kmany s (l ++ [h]) = khash (kmany s l) h := by simp [kmany, List.foldl_append]
end Go.Proofs.Ytplgffbfepnihaa.Pure
namespace Go.Proofs.Ytplgffbfepnihaa
open Go.RowKit Go.Sort Go.Proofs
theorem quiet_add_same {P : Program} {f : FuncId} {args : Array Value} {w : World} {a n : Nat} {v : Value} (h : Calls P f args (w.drewN (a + n)) fun e w' => e = .returned v ∧ w' = w.drewN (a + n)) :
  Calls P f args (w.drewN (a + n)) fun e w'' => e = .returned v ∧ ∃ m, w'' = w.drewN (a + m) := h.mono fun _ _ ⟨he, hm⟩ => ⟨he, n, hm⟩
theorem isNaN_u (x : Int) (w : World) : Calls Try.prog 135 #[.int .u64 x] w fun e w' => e = .returned (.bool false) ∧ w' = w := by
 go_enter Try.func135, Try.ntmps135; go_wp2; go_ret
 exact ⟨zk56, rfl⟩
theorem less_u (x y : Int) (w : World) : Calls Try.prog 124 #[.int .u64 x, .int .u64 y] w fun e w' => e = .returned (.bool (Sort.ltInt x y)) ∧ w' = w := by
 go_enter Try.func124, Try.ntmps124; (go_wp2_with (go_at_call 135; refine (isNaN_u _ _).mono ?_; rintro e w' ⟨rfl, rfl⟩)); go_ret
 exact zk247
theorem swapU {wr w : World} {n blk off : Nat} {dk : Array Int} (hw : wr = putRow (Value.int .u64) (Sort.ahead w n) blk off dk) {q j k : Nat} {x y : Int} (hj : j < dk.size) (hk : k < dk.size) (hx : x = dk[k]!) (hy : y = dk[j]!) :
  ((wr.drewN q).setCell ⟨blk, off + j, none⟩ (.int .u64 x)).setCell ⟨blk, off + k, none⟩ (.int .u64 y) = putRow (Value.int .u64) (Sort.ahead w (n + q)) blk off (swp dk j k) := by
 rw [hw, hx, hy]; exact swap_worldA _ w n q blk off dk j k hj hk
theorem thenU {wr w : World} {n blk off q : Nat} {dk d' : Array Int} (hw : wr = putRow (Value.int .u64) (Sort.ahead w n) blk off dk) (hs : d'.size = dk.size) : putRow (Value.int .u64) (Sort.ahead wr q) blk off d' = putRow (Value.int .u64) (Sort.ahead w (n + q)) blk off d' := by
 rw [hw]; exact putRow_ahead_putRow _ _ _ _ _ _ _ _ hs
theorem holdsU {wr w : World} {n blk off : Nat} {d dk : Array Int} (hH : Holds (Value.int .u64) w blk off d) (hs : dk.size = d.size) (hw : wr = putRow (Value.int .u64) (Sort.ahead w n) blk off dk) : Holds (Value.int .u64) wr blk off dk := by
 rw [hw]; exact holds_putRow _ _ _ _ d dk (holds_ahead _ _ _ _ _ _ hH) hs
set_option maxHeartbeats 1000000 in
theorem insertionSort_u (blk off len cap a b : Nat) (d : Array Int) (hlen : d.size = len) (w : World) (hH : Holds (Value.int .u64) w blk off d) (hab : a ≤ b) (hb : b ≤ d.size) (hsz : d.size < 4611686018427387904) :
  Calls Try.prog 118 #[.slice (some ⟨blk, off, none⟩) len cap, .int .i64 a, .int .i64 b] w fun e w' =>
   e = .returned (.tuple #[]) ∧ ∃ n, w' = putRow (Value.int .u64) (Sort.ahead w n) blk off (Sort.insertionSort ltInt d a b) := by
 subst hlen; go_enter Try.func118, Try.ntmps118; go_wp2
 go_loopw [6] (fun vi wr => ∃ (i n : Nat) (dk : Array Int), vi = .int .i64 i ∧ a < i ∧ i ≤ b + 1 ∧ dk.size = d.size ∧ wr = putRow (Value.int .u64) (Sort.ahead w n) blk off dk ∧
   insOuter ltInt a b i dk = insOuter ltInt a b (a + 1) d) (fun vi _ => b + 1 - (intOf vi).toNat)
 case atStart => exact ⟨a + 1, 0, d, zk176, zk6, zk6, rfl, (putRow_self _ _ _ _ _ hH).symm, rfl⟩
 case round =>
  obtain ⟨i, n, dk, rfl, hai, hib, hsk, hwr, hO⟩ := hrel; have HO := Lib.hid hO; clear hO; go_wp2
  ·go_loopw [7] (fun vj wr2 => ∃ (j m : Nat) (dj : Array Int), vj = .int .i64 j ∧ a ≤ j ∧ j ≤ i ∧ dj.size = d.size ∧ wr2 = putRow (Value.int .u64) (Sort.ahead w m) blk off dj ∧
     insInner ltInt a j dj = insInner ltInt a i dk) (fun vj _ => (intOf vj).toNat)
   case atStart => exact ⟨i, n, dk, rfl, zk6, Nat.le_refl _, hsk, rfl, rfl⟩
   case round =>
    obtain ⟨j, m, dj, rfl, haj, hji, hsj, hw2, hI⟩ := hrel; have hlt : i < b := by assumption
    obtain ⟨G, hG⟩ : ∃ G : Nat → Int, ∀ t, G t = dj[t]! := ⟨fun t => dj[t]!, fun _ => rfl⟩
    have hcw : ∀ t, t < d.size → wr.cell? ⟨blk, off + t, none⟩ = some (.int .u64 (G t)) := fun t ht => by
     rw [hw2, hG]; exact cell?_putRow _ _ _ _ d dj (holds_ahead _ _ _ _ _ _ hH) hsj t zk6
    have hfw : ∀ t, t < d.size → wr.frozen? ⟨blk, off + t, none⟩ = false := fun t ht => by
     rw [hw2, frozen?_putRow]; exact ((holds_ahead _ _ m _ _ _ hH) t ht).2
    have HW := Lib.hid hw2; have HG := Lib.hid hG; have HI := Lib.hid hI; clear hw2 hG hI hH
    have out : (j ≤ a ∨ ltInt dj[j]! dj[j - 1]! = false) → ∀ q, ∃ i' n' dk', Value.int .i64 ((i : Int) + 1) = .int .i64 (i' : Nat) ∧ a < i' ∧ i' ≤ b + 1 ∧ dk'.size = d.size ∧
      wr.drewN q = putRow (Value.int .u64) (Sort.ahead w n') blk off dk' ∧ insOuter ltInt a b i' dk' = insOuter ltInt a b (a + 1) d := fun hs q =>
     ⟨i + 1, m + q, dj, zk176, zk6, zk6, hsj, by rw [HW.out]; exact putRow_drewN _ _ _ _ _ _ _,
      by rw [← HO.out, insOuter_go _ _ _ _ _ hlt, ← HI.out, insInner_stop _ _ _ _ hs]⟩
    have OUT := Lib.hid out; clear out; go_wp2; by_cases hja : a < j
    ·go_quiet (first | (go_at_call 124; refine Calls.quiet_of_same (less_u _ _ _)))
     go_wp2
     ·have hl : ltInt (G j) (G (j - 1)) = true := by assumption
      go_region
      all_goals go_wp2
      go_roundw
      case rel =>
       refine ⟨j - 1, m + (nq + 1), swp dj j (j - 1), zk179, zk6, zk6, zk204, ?_, ?_⟩
       ·rw [HW.out, HG.out, HG.out]; exact swap_worldA _ w m (nq + 1) blk off dj j (j - 1) zk6 zk6
       ·rw [← HI.out, insInner_go ltInt a j dj hja (by rw [← HG.out, ← HG.out]; exact hl)]
      case measure => simp [intOf]; omega
     ·have hl : ltInt (G j) (G (j - 1)) = false := by assumption
      go_roundw
      case rel => exact OUT.out (Or.inr (by rw [← HG.out, ← HG.out]; exact hl)) nq
      case measure => simp [intOf]; omega
    ·go_quiet (first | (go_at_call 124; refine Calls.quiet_of_same (less_u _ _ _)))
     go_wp2; go_roundw
     case rel => exact OUT.out (Or.inl zk6) nq
     case measure => simp [intOf]; omega
  ·have hge : ¬ i < b := by assumption
   go_end0
   exact ⟨rfl, n, by unfold Sort.insertionSort; rw [← HO.out, insOuter_stop _ _ _ _ _ hge]⟩
end Go.Proofs.Ytplgffbfepnihaa
namespace Go.Proofs.Ytplgffbfepnihaa
open Go.RowKit Go.Sort Go.Proofs
theorem famU {w wr : World} {m blk off : Nat} {d dj : Array Int} (hH : Holds (Value.int .u64) w blk off d) (hs : dj.size = d.size) (hw : wr = putRow (Value.int .u64) (Sort.ahead w m) blk off dj) :
  ∃ G : Nat → Int, (∀ t, G t = dj[t]!) ∧ (∀ t, t < d.size → wr.cell? ⟨blk, off + t, none⟩ = some (.int .u64 (G t))) ∧ (∀ t, t < d.size → wr.frozen? ⟨blk, off + t, none⟩ = false) :=
 ⟨fun t => dj[t]!, fun _ => rfl, fun t ht => by rw [hw]; exact cell?_putRow _ _ _ _ d dj (holds_ahead _ _ _ _ _ _ hH) hs t zk6, fun t ht => by rw [hw, frozen?_putRow]; exact ((holds_ahead _ _ m _ _ _ hH) t ht).2⟩
set_option maxHeartbeats 2000000 in
theorem siftDown_u (blk off len cap lo hi first : Nat) (d : Array Int) (hlen : d.size = len) (w : World) (hH : Holds (Value.int .u64) w blk off d) (hb : first + hi ≤ d.size) (hlo : lo ≤ hi) (hsz : d.size < 4611686018427387904) :
  Calls Try.prog 130 #[.slice (some ⟨blk, off, none⟩) len cap, .int .i64 lo, .int .i64 hi, .int .i64 first] w fun e w' =>
   e = .returned (.tuple #[]) ∧ ∃ n, w' = putRow (Value.int .u64) (Sort.ahead w n) blk off (siftDown ltInt hi first lo d) := by
 subst hlen; go_enter Try.func130, Try.ntmps130; go_wp2
 go_loopw [8] (fun vi wr => ∃ (i n : Nat) (dk : Array Int), vi = .int .i64 i ∧ i ≤ hi ∧ dk.size = d.size ∧ wr = putRow (Value.int .u64) (Sort.ahead w n) blk off dk ∧
   siftDown ltInt hi first i dk = siftDown ltInt hi first lo d) (fun vi _ => hi - (intOf vi).toNat)
 case atStart => exact ⟨lo, 0, d, rfl, hlo, rfl, (putRow_self _ _ _ _ _ hH).symm, rfl⟩
 case round =>
  obtain ⟨i, n, dk, rfl, hi1, hsk, hwr, hO⟩ := hrel; obtain ⟨G, hG, hcw, hfw⟩ := famU hH hsk hwr; have HO := Lib.hid hO; have HG := Lib.hid hG; have HW := Lib.hid hwr; clear hO hG hwr hH; have DR : ∀ m, wr.drewN m = putRow (Value.int .u64) (Sort.ahead w (n + m)) blk off dk := fun m => by rw [HW.out]; exact putRow_drewN _ _ _ _ _ _ _
  have HDR := Lib.hid DR; clear DR; have e1 : first + (2 * i + 1) = first + 2 * i + 1 := zk6
  have e2 : first + (2 * i + 2) = first + 2 * i + 2 := zk6
  by_cases c1 : 2 * i + 1 < hi
  ·by_cases c2 : 2 * i + 2 < hi
   ·have g1 : decide (2 * (i : Int) + 1 + 1 < (hi : Int)) = true := decide_eq_true zk6
    have g2 : (2 * (i : Int) + 1 + 1 < (hi : Int)) := zk6
    go_wp2; go_quiet (first | (go_at_call 124; exact Calls.quiet_of_same (less_u _ _ _)) | (go_at_call 124; exact quiet_add_same (less_u _ _ _)))
    go_wp2
    all_goals
     go_quiet (first | (go_at_call 124; exact Calls.quiet_of_same (less_u _ _ _)) | (go_at_call 124; exact quiet_add_same (less_u _ _ _)))
     go_wp2
    ·have l12 : ltInt (G (first + 2 * i + 1)) (G (first + 2 * i + 2)) = true := by assumption
     have l0 : (!ltInt (G (first + i)) (G (first + 2 * i + 2))) = true := by assumption
     refine bodyPost_ret (results_none rfl _ _ _) rfl ?_; exact ⟨rfl, _, by rw [HDR.out, putRow_drewN, ← HO.out, sd_right_stop ltInt dk c2 (by rw [e1, e2, ← HG.out, ← HG.out]; exact l12) (by rw [e2, ← HG.out, ← HG.out]; simpa using l0)]⟩
    ·have l12 : ltInt (G (first + 2 * i + 1)) (G (first + 2 * i + 2)) = true := by assumption
     have l0 : (!ltInt (G (first + i)) (G (first + 2 * i + 2))) = false := by assumption
     go_region
     all_goals go_wp2
     go_roundw
     case rel => refine ⟨2 * i + 2, _, swp dk (first + i) (first + 2 * i + 2), zk183, zk6, zk180, swapU HW.out zk6 zk6 (HG.out _) (HG.out _), ?_⟩; rw [← HO.out, sd_right_go ltInt dk c2 (by rw [e1, e2, ← HG.out, ← HG.out]; exact l12) (by rw [e2, ← HG.out, ← HG.out]; simpa using l0), e2]
     case measure => simp [intOf]; omega
    ·have l12 : ltInt (G (first + 2 * i + 1)) (G (first + 2 * i + 2)) = false := by assumption
     have l0 : (!ltInt (G (first + i)) (G (first + 2 * i + 1))) = true := by assumption
     refine bodyPost_ret (results_none rfl _ _ _) rfl ?_; exact ⟨rfl, _, by rw [HDR.out, putRow_drewN, ← HO.out, sd_left_stop ltInt dk c1 (fun _ => by rw [e1, e2, ← HG.out, ← HG.out]; exact l12) zk177]⟩
    ·have l12 : ltInt (G (first + 2 * i + 1)) (G (first + 2 * i + 2)) = false := by assumption
     have l0 : (!ltInt (G (first + i)) (G (first + 2 * i + 1))) = false := by assumption
     go_region
     all_goals go_wp2
     go_roundw
     case rel => refine ⟨2 * i + 1, _, swp dk (first + i) (first + 2 * i + 1), zk183, zk6, zk180, swapU HW.out zk6 zk6 (HG.out _) (HG.out _), ?_⟩; rw [← HO.out, sd_left_go ltInt dk c1 (fun _ => by rw [e1, e2, ← HG.out, ← HG.out]; exact l12) zk177, e1]
     case measure => simp [intOf]; omega
   ·have g1 : decide (2 * (i : Int) + 1 + 1 < (hi : Int)) = false := decide_eq_false zk6
    have g2 : ¬ (2 * (i : Int) + 1 + 1 < (hi : Int)) := zk6
    go_wp2; go_quiet (first | (go_at_call 124; exact Calls.quiet_of_same (less_u _ _ _)) | (go_at_call 124; exact quiet_add_same (less_u _ _ _)))
    go_wp2; go_quiet (first | (go_at_call 124; exact Calls.quiet_of_same (less_u _ _ _)) | (go_at_call 124; exact quiet_add_same (less_u _ _ _)))
    go_wp2
    ·have l0 : (!ltInt (G (first + i)) (G (first + 2 * i + 1))) = true := by assumption
     refine bodyPost_ret (results_none rfl _ _ _) rfl ?_; exact ⟨rfl, _, by rw [HDR.out, putRow_drewN, ← HO.out, sd_left_stop ltInt dk c1 (fun h => absurd h c2) zk177]⟩
    ·have l0 : (!ltInt (G (first + i)) (G (first + 2 * i + 1))) = false := by assumption
     go_region
     all_goals go_wp2
     go_roundw
     case rel => refine ⟨2 * i + 1, _, swp dk (first + i) (first + 2 * i + 1), zk183, zk6, zk180, swapU HW.out zk6 zk6 (HG.out _) (HG.out _), ?_⟩; rw [← HO.out, sd_left_go ltInt dk c1 (fun h => absurd h c2) zk177, e1]
     case measure => simp [intOf]; omega
  ·go_wp2
   go_end0
   exact ⟨rfl, n, by rw [HW.out, ← HO.out, sd_end ltInt dk zk6]⟩
end Go.Proofs.Ytplgffbfepnihaa
namespace Go.Proofs.Ytplgffbfepnihaa
open Go.RowKit Go.Sort Go.Proofs
theorem reverseLoop_go (i j : Nat) (d : Array Int) (h : i < j) : reverseLoop i j d = reverseLoop (i + 1) (j - 1) (swp d i j) := by rw [reverseLoop, if_pos h]
theorem reverseLoop_end (i j : Nat) (d : Array Int) (h : ¬ i < j) : reverseLoop i j d = d := by rw [reverseLoop, if_neg h]
set_option maxHeartbeats 1000000 in
theorem reverseRange_u (blk off len cap a b : Nat) (d : Array Int) (hlen : d.size = len) (w : World) (hH : Holds (Value.int .u64) w blk off d) (hab : a < b) (hb : b ≤ d.size) (hsz : d.size < 4611686018427387904) :
  Calls Try.prog 122 #[.slice (some ⟨blk, off, none⟩) len cap, .int .i64 a, .int .i64 b] w fun e w' =>
   e = .returned (.tuple #[]) ∧ ∃ n, w' = putRow (Value.int .u64) (Sort.ahead w n) blk off (Sort.reverseRange d a b) := by
 subst hlen; have e0 : (b : Int) - 1 = ((b - 1 : Nat) : Int) := zk6
 go_enter Try.func122, Try.ntmps122; go_wp2
 go_loopw [6, 7] (fun vi vj wr => ∃ (i j n : Nat) (dk : Array Int), vi = .int .i64 i ∧ vj = .int .i64 j ∧ i ≤ j + 1 ∧ j < b ∧ dk.size = d.size ∧ wr = putRow (Value.int .u64) (Sort.ahead w n) blk off dk ∧
   reverseLoop i j dk = reverseLoop a (b - 1) d) (fun vi _ _ => b - (intOf vi).toNat)
 case atStart => exact ⟨a, b - 1, 0, d, rfl, by first | rfl | rw [e0], zk6, zk6, rfl, (putRow_self _ _ _ _ _ hH).symm, rfl⟩
 case round =>
  obtain ⟨i, j, n, dk, rfl, rfl, hij, hjb, hsk, hwr, hO⟩ := hrel; obtain ⟨G, hG, hcw, hfw⟩ := famU hH hsk hwr; have HO := Lib.hid hO; have HG := Lib.hid hG; have HW := Lib.hid hwr; clear hO hG hwr hH e0; by_cases c : i < j
  ·go_wp2
   go_region
   all_goals go_wp2
   go_roundw
   case rel => exact ⟨i + 1, j - 1, _, swp dk i j, zk176, zk179, zk6, zk6, zk180, swapU (q := 1) HW.out zk6 zk6 (HG.out _) (HG.out _), by rw [← HO.out, reverseLoop_go i j dk c]⟩
   case measure => simp [intOf]; omega
  ·go_wp2
   go_end0
   exact ⟨rfl, n, by rw [HW.out, Sort.reverseRange, ← HO.out, reverseLoop_end i j dk c]⟩
theorem size_sift (hi F root : Nat) (d : Array Int) : (siftDown ltInt hi F root d).size = d.size := size_siftDown ltInt hi F _ root d (Nat.le_refl _)
theorem build_go (hi F k : Nat) (d : Array Int) : heapBuild ltInt hi F (k + 1) d = heapBuild ltInt hi F k (siftDown ltInt hi F k d) := rfl
theorem pop_go (F k : Nat) (d : Array Int) : heapPop ltInt F (k + 1) d = heapPop ltInt F k (siftDown ltInt k F 0 (swp d F (F + k))) := rfl
set_option maxHeartbeats 2000000 in
theorem heapSort_u (blk off len cap a b : Nat) (d : Array Int) (hlen : d.size = len) (w : World) (hH : Holds (Value.int .u64) w blk off d) (hab : a ≤ b) (hb : b ≤ d.size) (hsz : d.size < 4611686018427387904) :
  Calls Try.prog 119 #[.slice (some ⟨blk, off, none⟩) len cap, .int .i64 a, .int .i64 b] w fun e w' =>
   e = .returned (.tuple #[]) ∧ ∃ n, w' = putRow (Value.int .u64) (Sort.ahead w n) blk off (Sort.heapSort ltInt d a b) := by
 subst hlen; obtain ⟨hi, hhi⟩ : ∃ hi : Nat, b - a = hi := ⟨_, rfl⟩
 have e0 : (b : Int) - (a : Int) = (hi : Int) := zk6
 have hs := half_start hab; rw [e0, hhi] at hs; obtain ⟨T, hT⟩ : ∃ T : Int, T = (((hi - 1) / 2 + 1 : Nat) : Int) - 1 := ⟨_, rfl⟩
 rw [← hT] at hs; have HS := Lib.hid hs; have HT := Lib.hid hT; clear hT; have HE := Lib.hid e0; have HI := Lib.hid hhi; have hb2 : a + hi ≤ d.size := zk6
 have hh : heapSort ltInt d a b = heapPop ltInt a hi (heapBuild ltInt hi a ((hi - 1) / 2 + 1) d) := by unfold Sort.heapSort; rw [hhi]
 have HH := Lib.hid hh; clear e0 hs hhi hh; go_enter Try.func119, Try.ntmps119; go_wp2; rw [HE.out, HS.out]
 go_loopw [9] (fun vi wr => ∃ (k n : Nat) (z : Int) (dk : Array Int), vi = .int .i64 z ∧ z = (k : Int) - 1 ∧ k ≤ (hi - 1) / 2 + 1 ∧ dk.size = d.size ∧ wr = putRow (Value.int .u64) (Sort.ahead w n) blk off dk ∧
   heapBuild ltInt hi a k dk = heapBuild ltInt hi a ((hi - 1) / 2 + 1) d) (fun vi _ => (intOf vi + 1).toNat)
 case atStart => exact ⟨_, 0, _, d, rfl, HT.out, Nat.le_refl _, rfl, (putRow_self _ _ _ _ _ hH).symm, rfl⟩
 case round =>
  obtain ⟨k, n, z, dk, rfl, hz, hk, hsk, hwr, hO⟩ := hrel; have HO := Lib.hid hO; have HW := Lib.hid hwr; have HK := Lib.hid hsk; clear hO hwr
  rcases Nat.eq_zero_or_pos k with hk0 | hk0
  ·subst hk0
   have hz2 : ¬ (0 ≤ z) := zk6
   have hz3 : decide (0 ≤ z) = false := decide_eq_false hz2; go_wp2
   go_loopw [10] (fun vi wr => ∃ (k n : Nat) (z : Int) (dj : Array Int), vi = .int .i64 z ∧ z = (k : Int) - 1 ∧ k ≤ hi ∧ dj.size = d.size ∧ wr = putRow (Value.int .u64) (Sort.ahead w n) blk off dj ∧
     heapPop ltInt a k dj = heapPop ltInt a hi dk) (fun vi _ => (intOf vi + 1).toNat)
   case atStart => exact ⟨hi, n, _, dk, rfl, rfl, Nat.le_refl _, HK.out, HW.out, rfl⟩
   case round =>
    obtain ⟨k, n, z, dj, rfl, hz, hk, hsj, hwr, hP⟩ := hrel; obtain ⟨G, hG, hcw, hfw⟩ := famU hH hsj hwr; have HP := Lib.hid hP; have HG := Lib.hid hG; have HW := Lib.hid hwr; clear hP hG hwr hz2 hz3
    rcases Nat.eq_zero_or_pos k with hk0 | hk0
    ·subst hk0
     have hz2 : ¬ (0 ≤ z) := zk6
     have hz3 : decide (0 ≤ z) = false := decide_eq_false hz2; go_wp2; go_end0
     exact ⟨rfl, n, by rw [HW.out, HH.out, ← HO.out]; exact congrArg _ (show dj = _ by rw [show heapBuild ltInt hi a 0 dk = dk from rfl, ← HP.out]; rfl)⟩
    ·obtain ⟨k, rfl⟩ : ∃ m, k = m + 1 := ⟨k - 1, zk6⟩
     obtain rfl : z = (k : Int) := zk6
     clear hz; have hca := hcw a zk6; have hck := hcw (a + k) zk6; obtain ⟨v', hy'⟩ := cell?_setCell_some (w := wr) (p := ⟨blk, off + a, none⟩) (x := .int .u64 (G (a + k))) (q := ⟨blk, off + (a + k), none⟩) (v := .int .u64 (G (a + k))) hck; go_wp2; go_region
     have SW := fun q x y (hx : x = dj[a + k]!) (hy : y = dj[a]!) => swapU (q := q) HW.out (j := a) (k := a + k) zk6 zk6 hx hy; have hHr := holdsU hH hsj HW.out; have SZ := size_swp dj a (a + k); have SW2 : ((wr.setCell ⟨blk, off + a, none⟩ (.int .u64 (G (a + k)))).setCell ⟨blk, off + (a + k), none⟩ (.int .u64 (G a))).drew = putRow (Value.int .u64) (Sort.ahead w (n + 1)) blk off (swp dj a (a + k)) := SW 1 _ _ (HG.out _) (HG.out _); obtain ⟨W2, hW2⟩ : ∃ W2, putRow (Value.int .u64) (Sort.ahead w (n + 1)) blk off (swp dj a (a + k)) = W2 := ⟨_, rfl⟩
     have C := siftDown_u blk off d.size cap 0 k a (swp dj a (a + k)) (by rw [SZ]; exact hsj) W2 (holdsU hH (by rw [SZ]; exact hsj) hW2.symm) (by rw [SZ]; omega) zk6 (by rw [SZ]; omega); rw [hW2] at SW2; have HW2 := Lib.hid hW2; have HSW2 := Lib.hid SW2; clear hW2 SW2 hca hck hy' hcw hfw SW hHr
     all_goals
      rw [HSW2.out]; (go_wp2_with (go_at_call 130; refine C.mono ?_; rintro e w1 ⟨rfl, q, rfl⟩; clear C)); go_roundw
      case rel => first | exact ⟨k, _, _, siftDown ltInt k a 0 (swp dj a (a + k)), rfl, by first | rfl | omega, zk6, by rw [size_sift, SZ]; exact hsj, thenU HW2.out.symm (size_sift _ _ _ _), by rw [← HP.out, pop_go]⟩ | ((repeat apply Exists.intro); exact ⟨⟨k, _, _, siftDown ltInt k a 0 (swp dj a (a + k)), rfl, by first | rfl | omega, zk6, by rw [size_sift, SZ]; exact hsj, thenU HW2.out.symm (size_sift _ _ _ _), by rw [← HP.out, pop_go]⟩, rfl⟩)
      case measure => first | (simp [intOf]; done) | (simp [intOf]; omega)
  ·obtain ⟨k, rfl⟩ : ∃ m, k = m + 1 := ⟨k - 1, zk6⟩
   obtain rfl : z = (k : Int) := zk6
   clear hz; have hHr := holdsU hH hsk HW.out; have C := siftDown_u blk off d.size cap k hi a dk hsk wr hHr zk6 zk6 zk6; clear hHr; (go_wp2_with (go_at_call 130; refine C.mono ?_; rintro e w1 ⟨rfl, q, rfl⟩; clear C)); go_roundw
   case rel => first | exact ⟨k, _, _, siftDown ltInt hi a k dk, rfl, by first | rfl | omega, zk6, by rw [size_sift]; exact HK.out, thenU HW.out (size_sift _ _ _ _), by rw [← HO.out, build_go]⟩ | ((repeat apply Exists.intro); exact ⟨⟨k, _, _, siftDown ltInt hi a k dk, rfl, by first | rfl | omega, zk6, by rw [size_sift]; exact HK.out, thenU HW.out (size_sift _ _ _ _), by rw [← HO.out, build_go]⟩, rfl⟩)
   case measure => first | (simp [intOf]; done) | (simp [intOf]; omega)
end Go.Proofs.Ytplgffbfepnihaa
namespace Go.Proofs.Ytplgffbfepnihaa
open Go.RowKit Go.Sort Go.Proofs
theorem scan_range (d : Array Int) (b : Nat) : ∀ (n i : Nat), b - i ≤ n → i ≤ b → i ≤ scanSorted ltInt d b i ∧ scanSorted ltInt d b i ≤ b := by
 intro n
 induction n with
 | zero => intro i h hi; rw [scanSorted_stop ltInt d b i (.inl zk6)]; omega
 | succ n ih =>
  intro i h hi; by_cases c : i < b
  ·cases hl : ltInt d[i]! d[i - 1]! with
   | true => rw [scanSorted_stop ltInt d b i (.inr hl)]; omega
   | false => rw [scanSorted_go ltInt d b i c hl]; have := ih (i + 1) zk6 zk6; omega
  ·rw [scanSorted_stop ltInt d b i (.inl c)]; omega
set_option maxHeartbeats 4000000 in
set_option maxRecDepth 100000 in
theorem partialIns_u (blk off len cap a b : Nat) (d : Array Int) (hlen : d.size = len) (w : World) (hH : Holds (Value.int .u64) w blk off d) (hab : a < b) (hb : b ≤ d.size) (hsz : d.size < 4611686018427387904) :
  Calls Try.prog 123 #[.slice (some ⟨blk, off, none⟩) len cap, .int .i64 a, .int .i64 b] w fun e w' =>
   e = .returned (.bool (Sort.partialInsertionSort ltInt d a b).2) ∧ ∃ n, w' = putRow (Value.int .u64) (Sort.ahead w n) blk off (Sort.partialInsertionSort ltInt d a b).1 := by
 subst hlen; go_enter Try.func123, Try.ntmps123; go_wp2
 go_loopw [7, 8] (fun vi vs wr => ∃ (i s n : Nat) (dk : Array Int), vi = .int .i64 i ∧ vs = .int .i64 s ∧ s ≤ 5 ∧ a < i ∧ i ≤ b ∧ dk.size = d.size ∧ wr = putRow (Value.int .u64) (Sort.ahead w n) blk off dk ∧
   partialIns ltInt a b (5 - s) i dk = Sort.partialInsertionSort ltInt d a b) (fun _ vs _ => 5 - (intOf vs).toNat)
 case atStart => exact ⟨a + 1, 0, 0, d, zk176, rfl, zk6, zk6, zk6, rfl, (putRow_self _ _ _ _ _ hH).symm, rfl⟩
 case round =>
  obtain ⟨i, s, n, dk, rfl, rfl, hs5, hai, hib, hsk, hwr, hO⟩ := hrel; have HO := Lib.hid hO; have HW := Lib.hid hwr; clear hO hwr; by_cases c5 : s < 5
  ·go_upto_block 2 with (fail)
   go_cut [7] (fun v7 wc => ∃ (i2 m : Nat), v7 = .int .i64 i2 ∧ Hid (scanSorted ltInt dk b i = i2) ∧ Hid (wc = putRow (Value.int .u64) (Sort.ahead w m) blk off dk))
   case first =>
    go_wp2; go_loopw [7] (fun vi wr2 => ∃ (j m : Nat), vi = .int .i64 j ∧ a < j ∧ j ≤ b ∧ wr2 = putRow (Value.int .u64) (Sort.ahead w m) blk off dk ∧ scanSorted ltInt dk b j = scanSorted ltInt dk b i) (fun vi _ => b - (intOf vi).toNat)
    case atStart => exact ⟨i, n, rfl, hai, hib, HW.out, rfl⟩
    case round =>
     obtain ⟨j, m, rfl, haj, hjb, hw2, hI⟩ := hrel; obtain ⟨G, hG, hcw, hfw⟩ := famU hH hsk hw2; have HI := Lib.hid hI; have HG := Lib.hid hG; have HW2 := Lib.hid hw2; clear hI hG hw2; by_cases hjb2 : j < b
     ·go_wp2
      go_quiet (first | (go_at_call 124; exact Calls.quiet_of_same (less_u _ _ _)) | (go_at_call 124; exact quiet_add_same (less_u _ _ _)))
      go_wp2
      ·have hl : (!ltInt (G j) (G (j - 1))) = true := by assumption
       go_roundw
       case rel => exact ⟨j + 1, _, zk176, zk6, zk6, zk67, by rw [← HI.out, scanSorted_go ltInt dk b j hjb2 zk155]⟩
       case measure => simp [intOf]; omega
      ·have hl : (!ltInt (G j) (G (j - 1))) = false := by assumption
       go_meet
       case rel => exact ⟨j, _, rfl, Lib.hid (by rw [← HI.out, scanSorted_stop ltInt dk b j (.inr zk155)]), Lib.hid zk67⟩
     ·go_wp2
      go_quiet (first | (go_at_call 124; exact Calls.quiet_of_same (less_u _ _ _)) | (go_at_call 124; exact quiet_add_same (less_u _ _ _)))
      go_wp2; go_meet
      case rel => exact ⟨j, _, rfl, Lib.hid (by rw [← HI.out, scanSorted_stop ltInt dk b j (.inl hjb2)]), Lib.hid zk67⟩
   case rest =>
    obtain ⟨i2, m, rfl, HS, HW2⟩ := hcut; have hr := scan_range dk b _ i (Nat.le_refl _) hib; rw [HS.out] at hr; by_cases hib2 : i2 = b
    ·have PE := pi_true ltInt a b s i dk c5 (by rw [HS.out, hib2]); rw [HO.out] at PE; have HPE := Lib.hid PE; subst hib2; clear PE; go_wp2; refine bodyPost_ret (v := .bool true) zk196 rfl ⟨by rw [HPE.out], m, by rw [HW2.out, HPE.out]⟩
    ·by_cases h50 : b - a < 50
     ·have PE := pi_short ltInt a b s i dk c5 (by rw [HS.out]; exact hib2) h50; rw [HO.out] at PE; have HPE := Lib.hid PE; clear PE; go_wp2; refine bodyPost_ret (v := .bool false) zk196 rfl ⟨by rw [HPE.out], m, by rw [HW2.out, HPE.out]⟩
     ·have PE := pi_go ltInt a b s i i2 dk c5 HS.out hib2 h50
      rw [HO.out] at PE; have HPE := Lib.hid PE; clear PE; obtain ⟨G, hG, hcw, hfw⟩ := famU hH hsk HW2.out; have HG := Lib.hid hG; clear hG; go_wp2; go_region
      (all_goals go_upto_if 61 with (fail)); refine name_world _ (fun W3 HW3 => ?_); have HW4 : Hid (W3 = putRow (Value.int .u64) (Sort.ahead w (m + 1)) blk off (swp dk i2 (i2 - 1))) := Lib.hid (by rw [← HW3.out]; exact swapU (q := 1) HW2.out zk6 zk6 (HG.out _) (HG.out _)); have hs1 : (swp dk i2 (i2 - 1)).size = d.size := zk180
      obtain ⟨d1, hd1⟩ : ∃ d1, swp dk i2 (i2 - 1) = d1 := ⟨_, rfl⟩
      rw [hd1] at HPE HW4 hs1; have HD1 := Lib.hid hd1; clear hd1 HW3 hcw hfw; go_cut [9] (fun v9 wc => ∃ (m2 : Nat) (d2 : Array Int), Hid (fixDown ltInt a i2 d1 = d2) ∧ d2.size = d.size ∧ Hid (wc = putRow (Value.int .u64) (Sort.ahead w m2) blk off d2))
      case first =>
       by_cases h2 : 2 ≤ i2 - a
       ·go_wp2
        go_loopw [9] (fun vi wr2 => ∃ (j m : Nat) (dj : Array Int), vi = .int .i64 j ∧ j < i2 ∧ dj.size = d.size ∧ wr2 = putRow (Value.int .u64) (Sort.ahead w m) blk off dj ∧ shiftDown ltInt j dj = shiftDown ltInt (i2 - 1) d1) (fun vi _ => (intOf vi).toNat)
        case atStart => exact ⟨i2 - 1, m + 1, d1, zk179, zk6, hs1, HW4.out, rfl⟩
        case round =>
         obtain ⟨j, m, dj, rfl, hj, hsj, hw2, hI⟩ := hrel; obtain ⟨G, hG, hcw, hfw⟩ := famU hH hsj hw2; have HI := Lib.hid hI; have HG := Lib.hid hG; have HW6 := Lib.hid hw2; have hfd : fixDown ltInt a i2 d1 = shiftDown ltInt (i2 - 1) d1 := if_pos h2; have HFD := Lib.hid hfd; clear hI hG hw2 hfd; by_cases hj1 : 1 ≤ j
         ·go_wp2
          go_quiet (first | (go_at_call 124; exact Calls.quiet_of_same (less_u _ _ _)) | (go_at_call 124; exact quiet_add_same (less_u _ _ _)))
          go_wp2
          ·have hl : (!ltInt (G j) (G (j - 1))) = true := by assumption
           go_meet
           case rel => exact ⟨_, dj, Lib.hid (by rw [HFD.out, ← HI.out, shiftDown_stop ltInt j dj (.inr zk155)]), hsj, Lib.hid (by rw [HW6.out]; exact putRow_drewN _ _ _ _ _ _ _)⟩
          ·have hl : (!ltInt (G j) (G (j - 1))) = false := by assumption
           go_region
           all_goals go_wp2
           go_roundw
           case rel => exact ⟨j - 1, _, swp dj j (j - 1), zk179, zk6, zk204, swapU HW6.out zk6 zk6 (HG.out _) (HG.out _), by rw [← HI.out, shiftDown_go ltInt j dj hj1 zk155]⟩
           case measure => simp [intOf]; omega
         ·go_wp2
          go_meet
          case rel => exact ⟨_, dj, Lib.hid (by rw [HFD.out, ← HI.out, shiftDown_stop ltInt j dj (.inl zk6)]), hsj, HW6⟩
       ·have hfd : fixDown ltInt a i2 d1 = d1 := if_neg h2
        go_wp2; go_meet
        case rel => exact ⟨_, d1, Lib.hid hfd, hs1, HW4⟩
      case rest =>
       obtain ⟨m2, d2, HD2, hs2, HW5⟩ := hcut; have fin : ∀ (d3 : Array Int) (m3 : Nat) (wz : World), d3.size = d.size → wz = putRow (Value.int .u64) (Sort.ahead w m3) blk off d3 → fixUp ltInt b i2 d2 = d3 → d3.size = d.size ∧ wz = putRow (Value.int .u64) (Sort.ahead w m3) blk off d3 ∧ partialIns ltInt a b (5 - (s + 1)) i2 d3 = Sort.partialInsertionSort ltInt d a b := fun d3 m3 wz h1 h2 h3 => ⟨h1, h2, by rw [HPE.out, HD2.out, h3]⟩
       have FIN := Lib.hid fin; clear fin; by_cases h2 : 2 ≤ b - i2
       ·go_wp2
        go_loopw [10] (fun vi wr2 => ∃ (j m : Nat) (dj : Array Int), vi = .int .i64 j ∧ i2 < j ∧ j ≤ b ∧ dj.size = d.size ∧ wr2 = putRow (Value.int .u64) (Sort.ahead w m) blk off dj ∧ shiftUp ltInt b j dj = shiftUp ltInt b (i2 + 1) d2) (fun vi _ => b - (intOf vi).toNat)
        case atStart => exact ⟨i2 + 1, m2, d2, zk176, zk6, zk6, hs2, HW5.out, rfl⟩
        case round =>
         obtain ⟨j, m, dj, rfl, hj, hjb, hsj, hw2, hI⟩ := hrel; obtain ⟨G, hG, hcw, hfw⟩ := famU hH hsj hw2; have HI := Lib.hid hI; have HG := Lib.hid hG; have HW6 := Lib.hid hw2; have hfd : fixUp ltInt b i2 d2 = shiftUp ltInt b (i2 + 1) d2 := if_pos h2; have HFD := Lib.hid hfd; clear hI hG hw2 hfd; by_cases hj1 : j < b
         ·go_wp2
          go_quiet (first | (go_at_call 124; exact Calls.quiet_of_same (less_u _ _ _)) | (go_at_call 124; exact quiet_add_same (less_u _ _ _)))
          go_wp2
          ·have hl : (!ltInt (G j) (G (j - 1))) = true := by assumption
           have FE := fun q => FIN.out dj (m + q) (wr.drewN q) hsj (by rw [HW6.out]; exact putRow_drewN _ _ _ _ _ _ _) (by rw [HFD.out, ← HI.out, shiftUp_stop ltInt b j dj (.inr zk155)]); have HFE := Lib.hid FE; clear FE; go_roundw
           case rel => first | exact ⟨i2, s + 1, _, dj, rfl, zk176, zk6, zk6, zk6, (HFE.out 0).1, (HFE.out _).2.1, (HFE.out 0).2.2⟩ | ((repeat apply Exists.intro); exact ⟨⟨i2, s + 1, _, dj, rfl, zk176, zk6, zk6, zk6, (HFE.out 0).1, (HFE.out _).2.1, (HFE.out 0).2.2⟩, rfl⟩)
           case measure => simp [intOf]; omega
          ·have hl : (!ltInt (G j) (G (j - 1))) = false := by assumption
           go_region
           all_goals go_wp2
           go_roundw
           case rel => exact ⟨j + 1, _, swp dj j (j - 1), zk176, zk6, zk6, zk204, swapU HW6.out zk6 zk6 (HG.out _) (HG.out _), by rw [← HI.out, shiftUp_go ltInt b j dj hj1 zk155]⟩
           case measure => simp [intOf]; omega
         ·have FE := FIN.out dj m wr hsj HW6.out (by rw [HFD.out, ← HI.out, shiftUp_stop ltInt b j dj (.inl hj1)])
          have HFE := Lib.hid FE; clear FE; go_wp2; go_roundw
          case rel => first | exact ⟨i2, s + 1, _, dj, rfl, zk176, zk6, zk6, zk6, HFE.out.1, HFE.out.2.1, HFE.out.2.2⟩ | ((repeat apply Exists.intro); exact ⟨⟨i2, s + 1, _, dj, rfl, zk176, zk6, zk6, zk6, HFE.out.1, HFE.out.2.1, HFE.out.2.2⟩, rfl⟩)
          case measure => simp [intOf]; omega
       ·have FE := FIN.out d2 m2 _ hs2 HW5.out (if_neg h2)
        have HFE := Lib.hid FE; clear FE; go_wp2; go_roundw
        case rel => first | exact ⟨i2, s + 1, _, d2, rfl, zk176, zk6, zk6, zk6, HFE.out.1, HFE.out.2.1, HFE.out.2.2⟩ | ((repeat apply Exists.intro); exact ⟨⟨i2, s + 1, _, d2, rfl, zk176, zk6, zk6, zk6, HFE.out.1, HFE.out.2.1, HFE.out.2.2⟩, rfl⟩)
        case measure => simp [intOf]; omega
  ·have hs : s = 5 := by omega
   subst hs; have PE := pi_end ltInt a b i dk; rw [HO.out] at PE; have HPE := Lib.hid PE; clear PE; go_wp2; refine bodyPost_ret (v := .bool false) zk196 rfl ⟨by rw [HPE.out], n, by rw [HW.out, HPE.out]⟩
end Go.Proofs.Ytplgffbfepnihaa
namespace Go.Proofs.Ytplgffbfepnihaa
open Go.RowKit Go.Sort Go.Proofs
theorem selfU {w : World} {blk off : Nat} {d : Array Int} (hH : Holds (Value.int .u64) w blk off d) : w = putRow (Value.int .u64) (Sort.ahead w 0) blk off d := (putRow_self _ w _ _ _ hH).symm
set_option maxHeartbeats 4000000 in
set_option maxRecDepth 100000 in
theorem partitionEqual_u (blk off len cap a b pivot : Nat) (d : Array Int) (hlen : d.size = len) (w : World) (hH : Holds (Value.int .u64) w blk off d) (hap : a ≤ pivot) (hpb : pivot < b) (hb : b ≤ d.size) (hsz : d.size < 4611686018427387904) :
  Calls Try.prog 125 #[.slice (some ⟨blk, off, none⟩) len cap, .int .i64 a, .int .i64 b, .int .i64 pivot] w fun e w' =>
   e = .returned (.int .i64 (Sort.partitionEqual ltInt d a b pivot).1) ∧ ∃ n, w' = putRow (Value.int .u64) (Sort.ahead w n) blk off (Sort.partitionEqual ltInt d a b pivot).2 := by
 subst hlen; obtain ⟨G, hG, hcw, hfw⟩ := famU hH rfl (selfU hH); have HG := Lib.hid hG; clear hG; have hc1 := hcw a zk6; have hc2 := hcw pivot zk6; obtain ⟨v', hy'⟩ := cell?_setCell_some (w := w) (p := ⟨blk, off + a, none⟩) (x := .int .u64 (G pivot)) (q := ⟨blk, off + pivot, none⟩) (v := .int .u64 (G pivot)) hc2; go_enter Try.func125, Try.ntmps125; go_wp2; go_region
 have HWs : Hid (((w.setCell ⟨blk, off + a, none⟩ (.int .u64 (G pivot))).setCell ⟨blk, off + pivot, none⟩ (.int .u64 (G a))).drew = putRow (Value.int .u64) (Sort.ahead w (0 + 1)) blk off (swp d a pivot)) := Lib.hid (swapU (q := 1) (selfU hH) zk6 zk6 (HG.out _) (HG.out _)); clear hcw hfw hc1 hc2 hy'; have hs1 : (swp d a pivot).size = d.size := size_swp _ _ _; obtain ⟨d1, hd1⟩ : ∃ d1, swp d a pivot = d1 := ⟨_, rfl⟩
 have hE : Sort.partitionEqual ltInt d a b pivot = partEqLoop ltInt a (a + 1) (b - 1) d1 := by unfold Sort.partitionEqual; rw [hd1]
 rw [hd1] at HWs hs1; have HE := Lib.hid hE; clear hd1 hE
 all_goals
  go_wp2; refine name_world _ (fun W3 HW3 => ?_); have HW4 : Hid (W3 = putRow (Value.int .u64) (Sort.ahead w (0 + 1)) blk off d1) := Lib.hid (by rw [← HW3.out]; exact HWs.out); clear HW3 HWs; go_loopw [9, 10] (fun vi vj wr => ∃ (i j n : Nat) (dk : Array Int), vi = .int .i64 i ∧ vj = .int .i64 j ∧ a < i ∧ i ≤ j + 1 ∧ j < b ∧ dk.size = d.size ∧ wr = putRow (Value.int .u64) (Sort.ahead w n) blk off dk ∧ partEqLoop ltInt a i j dk = partEqLoop ltInt a (a + 1) (b - 1) d1) (fun vi _ _ => b + 1 - (intOf vi).toNat)
  case atStart => exact ⟨a + 1, b - 1, 0 + 1, d1, zk176, zk183, zk6, zk6, zk6, hs1, HW4.out, rfl⟩
  case round =>
   obtain ⟨i, j, n, dk, rfl, rfl, hai, hij, hjb, hsk, hwr, hO⟩ := hrel; have HO := Lib.hid hO; have HW := Lib.hid hwr; clear hO hwr; go_upto_block 2 with (fail)
   go_cut [9] (fun v wc => ∃ (i2 m2 : Nat), v = .int .i64 i2 ∧ Hid (scanUp (fun x => !ltInt dk[a]! x) dk j i = i2) ∧ i ≤ i2 ∧ i2 ≤ j + 1 ∧ Hid (wc = putRow (Value.int .u64) (Sort.ahead w m2) blk off dk))
   case first =>
    go_wp2; go_loopw [9] (fun v wr2 => ∃ (t m2 : Nat), v = .int .i64 t ∧ i ≤ t ∧ t ≤ j + 1 ∧ wr2 = putRow (Value.int .u64) (Sort.ahead w m2) blk off dk ∧ scanUp (fun x => !ltInt dk[a]! x) dk j t = scanUp (fun x => !ltInt dk[a]! x) dk j i) (fun v _ => j + 1 - (intOf v).toNat)
    case atStart => exact ⟨i, _, rfl, Nat.le_refl _, zk6, HW.out, rfl⟩
    case round =>
     obtain ⟨t, m2, rfl, ht1, ht2, hw2, hI⟩ := hrel; obtain ⟨G, hG, hcw, hfw⟩ := famU hH hsk hw2; have HI := Lib.hid hI; have HG := Lib.hid hG; have HW2 := Lib.hid hw2; clear hI hG hw2; by_cases c : t ≤ j
     ·go_wp2
      go_quiet (first | (go_at_call 124; exact Calls.quiet_of_same (less_u _ _ _)) | (go_at_call 124; exact quiet_add_same (less_u _ _ _)))
      go_wp2
      ·have hl : (!ltInt (G a) (G t)) = true := by assumption
       go_roundw
       case rel => exact ⟨t + 1, _, zk176, zk6, zk6, zk67, by rw [← HI.out, scanUp_go (fun x => !ltInt dk[a]! x) dk j t c (by show ((!ltInt dk[a]! dk[t]!)) = true; rw [← HG.out, ← HG.out]; simpa using hl)]⟩
       case measure => simp [intOf]; omega
      ·have hl : (!ltInt (G a) (G t)) = false := by assumption
       go_meet
       case rel => exact ⟨t, _, rfl, Lib.hid (by rw [← HI.out, scanUp_end (fun x => !ltInt dk[a]! x) dk j t (.inr (by show ((!ltInt dk[a]! dk[t]!)) = false; rw [← HG.out, ← HG.out]; simpa using hl))]), ht1, ht2, Lib.hid zk67⟩
     ·go_wp2
      go_quiet (first | (go_at_call 124; exact Calls.quiet_of_same (less_u _ _ _)) | (go_at_call 124; exact quiet_add_same (less_u _ _ _)))
      go_wp2; go_meet
      case rel => exact ⟨t, _, rfl, Lib.hid (by rw [← HI.out, scanUp_end (fun x => !ltInt dk[a]! x) dk j t (.inl c)]), ht1, ht2, Lib.hid zk67⟩
   case rest =>
    obtain ⟨i2, m3, rfl, HI2, hi2, hi2j, HW5⟩ := hcut; go_upto_block 4 with (fail)
    go_cut [10] (fun v wc => ∃ (j2 m2 : Nat), v = .int .i64 j2 ∧ Hid (scanDown (fun x => ltInt dk[a]! x) dk i2 j = j2) ∧ j2 ≤ j ∧ i2 ≤ j2 + 1 ∧ Hid (wc = putRow (Value.int .u64) (Sort.ahead w m2) blk off dk))
    case first =>
     go_wp2; go_loopw [10] (fun v wr2 => ∃ (t m2 : Nat), v = .int .i64 t ∧ t ≤ j ∧ i2 ≤ t + 1 ∧ wr2 = putRow (Value.int .u64) (Sort.ahead w m2) blk off dk ∧ scanDown (fun x => ltInt dk[a]! x) dk i2 t = scanDown (fun x => ltInt dk[a]! x) dk i2 j) (fun v _ => (intOf v).toNat)
     case atStart => exact ⟨j, _, rfl, Nat.le_refl _, zk6, HW5.out, rfl⟩
     case round =>
      obtain ⟨t, m2, rfl, ht1, ht2, hw2, hI⟩ := hrel; obtain ⟨G, hG, hcw, hfw⟩ := famU hH hsk hw2; have HI := Lib.hid hI; have HG := Lib.hid hG; have HW2 := Lib.hid hw2; clear hI hG hw2; by_cases c : i2 ≤ t
      ·go_wp2
       go_quiet (first | (go_at_call 124; exact Calls.quiet_of_same (less_u _ _ _)) | (go_at_call 124; exact quiet_add_same (less_u _ _ _)))
       go_wp2
       ·have hl : ltInt (G a) (G t) = true := by assumption
        go_roundw
        case rel => exact ⟨t - 1, _, zk179, zk6, zk6, zk67, by rw [← HI.out, scanDown_go (fun x => ltInt dk[a]! x) dk i2 t c zk6 (by show (ltInt dk[a]! dk[t]!) = true; rw [← HG.out, ← HG.out]; simpa using hl)]⟩
        case measure => simp [intOf]; omega
       ·have hl : ltInt (G a) (G t) = false := by assumption
        go_meet
        case rel => exact ⟨t, _, rfl, Lib.hid (by rw [← HI.out, scanDown_end (fun x => ltInt dk[a]! x) dk i2 t (.inr (by show (ltInt dk[a]! dk[t]!) = false; rw [← HG.out, ← HG.out]; simpa using hl))]), ht1, ht2, Lib.hid zk67⟩
      ·go_wp2
       go_quiet (first | (go_at_call 124; exact Calls.quiet_of_same (less_u _ _ _)) | (go_at_call 124; exact quiet_add_same (less_u _ _ _)))
       go_wp2; go_meet
       case rel => exact ⟨t, _, rfl, Lib.hid (by rw [← HI.out, scanDown_end (fun x => ltInt dk[a]! x) dk i2 t (.inl c)]), ht1, ht2, Lib.hid zk67⟩
    case rest =>
     obtain ⟨j2, m4, rfl, HJ2, hj2, hij2, HW6⟩ := hcut; by_cases c : j2 < i2
     ·have PE := partEq_break ltInt a i j dk HI2.out.symm HJ2.out.symm c; rw [HO.out, ← HE.out] at PE; have HPE := Lib.hid PE; clear PE; go_wp2; refine bodyPost_ret (v := .int .i64 i2) (by simp [results, Try.results125, go_sem]) rfl ⟨by rw [HPE.out], m4, by rw [HW6.out, HPE.out]⟩
     ·have PE := partEq_go ltInt a i j dk HI2.out.symm HJ2.out.symm c
      have hlt := scans_lt ltInt a i j dk zk6 HI2.out.symm HJ2.out.symm zk6; rw [HO.out] at PE; have HPE := Lib.hid PE; clear PE; obtain ⟨G, hG, hcw, hfw⟩ := famU hH hsk HW6.out; have HG := Lib.hid hG; clear hG; go_wp2; go_region
      all_goals go_wp2
      go_roundw
      case rel => exact ⟨i2 + 1, j2 - 1, _, swp dk i2 j2, zk176, zk179, zk6, zk6, zk6, zk180, swapU (q := 1) HW6.out zk6 zk6 (HG.out _) (HG.out _), HPE.out.symm⟩
      case measure => simp [intOf]; omega
end Go.Proofs.Ytplgffbfepnihaa
namespace Go.Proofs.Ytplgffbfepnihaa
open Go.RowKit Go.Sort Go.Proofs
set_option maxHeartbeats 8000000 in
set_option maxRecDepth 100000 in
theorem partition_u (blk off len cap a b pivot : Nat) (d : Array Int) (hlen : d.size = len) (w : World) (hH : Holds (Value.int .u64) w blk off d) (hap : a ≤ pivot) (hpb : pivot < b) (hb : b ≤ d.size) (hsz : d.size < 4611686018427387904) :
  Calls Try.prog 126 #[.slice (some ⟨blk, off, none⟩) len cap, .int .i64 a, .int .i64 b, .int .i64 pivot] w fun e w' =>
   e = .returned (.tuple #[.int .i64 (Sort.partition ltInt d a b pivot).1, .bool (Sort.partition ltInt d a b pivot).2.1]) ∧ ∃ n, w' = putRow (Value.int .u64) (Sort.ahead w n) blk off (Sort.partition ltInt d a b pivot).2.2 := by
 subst hlen; obtain ⟨G, hG, hcw, hfw⟩ := famU hH rfl (selfU hH); have HG := Lib.hid hG; clear hG; have hc1 := hcw a zk6; have hc2 := hcw pivot zk6; obtain ⟨v', hy'⟩ := cell?_setCell_some (w := w) (p := ⟨blk, off + a, none⟩) (x := .int .u64 (G pivot)) (q := ⟨blk, off + pivot, none⟩) (v := .int .u64 (G pivot)) hc2; go_enter Try.func126, Try.ntmps126; go_wp2; go_region
 have HWs : Hid (((w.setCell ⟨blk, off + a, none⟩ (.int .u64 (G pivot))).setCell ⟨blk, off + pivot, none⟩ (.int .u64 (G a))).drew = putRow (Value.int .u64) (Sort.ahead w (0 + 1)) blk off (swp d a pivot)) := Lib.hid (swapU (q := 1) (selfU hH) zk6 zk6 (HG.out _) (HG.out _)); clear hcw hfw hc1 hc2 hy'; have hsk : (swp d a pivot).size = d.size := size_swp _ _ _; obtain ⟨dk, hdk⟩ : ∃ d1, d1 = swp d a pivot := ⟨_, rfl⟩
 rw [← hdk] at HWs hsk; have HDK := Lib.hid hdk; clear hdk; have eb : (b : Int) - 1 = ((b - 1 : Nat) : Int) := zk6
 have EB := Lib.hid eb; clear eb
 all_goals
  go_upto_block 0 with (fail)
  refine name_world _ (fun W3 HW3 => ?_); have HW4 : Hid (W3 = putRow (Value.int .u64) (Sort.ahead w (0 + 1)) blk off dk) := Lib.hid (by rw [← HW3.out]; exact HWs.out); clear HW3 HWs; rw [EB.out]; go_upto_block 0 with (fail)
  go_cut [10] (fun v wc => ∃ (i2 m2 : Nat), v = .int .i64 i2 ∧ Hid (scanUp (fun x => ltInt x dk[a]!) dk (b - 1) (a + 1) = i2) ∧ (a + 1) ≤ i2 ∧ i2 ≤ (b - 1) + 1 ∧ Hid (wc = putRow (Value.int .u64) (Sort.ahead w m2) blk off dk))
  case first =>
   go_wp2; go_loopw [10] (fun v wr2 => ∃ (t m2 : Nat), v = .int .i64 t ∧ (a + 1) ≤ t ∧ t ≤ (b - 1) + 1 ∧ wr2 = putRow (Value.int .u64) (Sort.ahead w m2) blk off dk ∧ scanUp (fun x => ltInt x dk[a]!) dk (b - 1) t = scanUp (fun x => ltInt x dk[a]!) dk (b - 1) (a + 1)) (fun v _ => (b - 1) + 1 - (intOf v).toNat)
   case atStart => exact ⟨(a + 1), _, rfl, Nat.le_refl _, zk6, HW4.out, rfl⟩
   case round =>
    obtain ⟨t, m2, rfl, ht1, ht2, hw2, hI⟩ := hrel; obtain ⟨G, hG, hcw, hfw⟩ := famU hH hsk hw2; have HI := Lib.hid hI; have HG := Lib.hid hG; have HW2 := Lib.hid hw2; clear hI hG hw2; by_cases c : t ≤ (b - 1)
    ·go_wp2
     go_quiet (first | (go_at_call 124; exact Calls.quiet_of_same (less_u _ _ _)) | (go_at_call 124; exact quiet_add_same (less_u _ _ _)))
     go_wp2
     ·have hl : ltInt (G t) (G a) = true := by assumption
      go_roundw
      case rel => exact ⟨t + 1, _, zk176, zk6, zk6, zk67, by rw [← HI.out, scanUp_go (fun x => ltInt x dk[a]!) dk (b - 1) t c (by show (ltInt dk[t]! dk[a]!) = true; rw [← HG.out, ← HG.out]; simpa using hl)]⟩
      case measure => simp [intOf]; omega
     ·have hl : ltInt (G t) (G a) = false := by assumption
      go_meet
      case rel => exact ⟨t, _, rfl, Lib.hid (by rw [← HI.out, scanUp_end (fun x => ltInt x dk[a]!) dk (b - 1) t (.inr (by show (ltInt dk[t]! dk[a]!) = false; rw [← HG.out, ← HG.out]; simpa using hl))]), ht1, ht2, Lib.hid zk67⟩
    ·go_wp2
     go_quiet (first | (go_at_call 124; exact Calls.quiet_of_same (less_u _ _ _)) | (go_at_call 124; exact quiet_add_same (less_u _ _ _)))
     go_wp2; go_meet
     case rel => exact ⟨t, _, rfl, Lib.hid (by rw [← HI.out, scanUp_end (fun x => ltInt x dk[a]!) dk (b - 1) t (.inl c)]), ht1, ht2, Lib.hid zk67⟩
  case rest =>
   obtain ⟨i2, m3, rfl, HI2, hi2, hi2j, HW5⟩ := hcut; go_upto_block 2 with (fail)
   go_cut [11] (fun v wc => ∃ (j2 m2 : Nat), v = .int .i64 j2 ∧ Hid (scanDown (fun x => !ltInt x dk[a]!) dk i2 (b - 1) = j2) ∧ j2 ≤ (b - 1) ∧ i2 ≤ j2 + 1 ∧ Hid (wc = putRow (Value.int .u64) (Sort.ahead w m2) blk off dk))
   case first =>
    go_wp2; go_loopw [11] (fun v wr2 => ∃ (t m2 : Nat), v = .int .i64 t ∧ t ≤ (b - 1) ∧ i2 ≤ t + 1 ∧ wr2 = putRow (Value.int .u64) (Sort.ahead w m2) blk off dk ∧ scanDown (fun x => !ltInt x dk[a]!) dk i2 t = scanDown (fun x => !ltInt x dk[a]!) dk i2 (b - 1)) (fun v _ => (intOf v).toNat)
    case atStart => exact ⟨(b - 1), _, rfl, Nat.le_refl _, zk6, HW5.out, rfl⟩
    case round =>
     obtain ⟨t, m2, rfl, ht1, ht2, hw2, hI⟩ := hrel; obtain ⟨G, hG, hcw, hfw⟩ := famU hH hsk hw2; have HI := Lib.hid hI; have HG := Lib.hid hG; have HW2 := Lib.hid hw2; clear hI hG hw2; by_cases c : i2 ≤ t
     ·go_wp2
      go_quiet (first | (go_at_call 124; exact Calls.quiet_of_same (less_u _ _ _)) | (go_at_call 124; exact quiet_add_same (less_u _ _ _)))
      go_wp2
      ·have hl : (!ltInt (G t) (G a)) = true := by assumption
       go_roundw
       case rel => exact ⟨t - 1, _, zk179, zk6, zk6, zk67, by rw [← HI.out, scanDown_go (fun x => !ltInt x dk[a]!) dk i2 t c zk6 (by show ((!ltInt dk[t]! dk[a]!)) = true; rw [← HG.out, ← HG.out]; simpa using hl)]⟩
       case measure => simp [intOf]; omega
      ·have hl : (!ltInt (G t) (G a)) = false := by assumption
       go_meet
       case rel => exact ⟨t, _, rfl, Lib.hid (by rw [← HI.out, scanDown_end (fun x => !ltInt x dk[a]!) dk i2 t (.inr (by show ((!ltInt dk[t]! dk[a]!)) = false; rw [← HG.out, ← HG.out]; simpa using hl))]), ht1, ht2, Lib.hid zk67⟩
     ·go_wp2
      go_quiet (first | (go_at_call 124; exact Calls.quiet_of_same (less_u _ _ _)) | (go_at_call 124; exact quiet_add_same (less_u _ _ _)))
      go_wp2; go_meet
      case rel => exact ⟨t, _, rfl, Lib.hid (by rw [← HI.out, scanDown_end (fun x => !ltInt x dk[a]!) dk i2 t (.inl c)]), ht1, ht2, Lib.hid zk67⟩
   case rest =>
    obtain ⟨j2, m4, rfl, HJ2, hj2, hij2, HW6⟩ := hcut; obtain ⟨G, hG, hcw, hfw⟩ := famU hH hsk HW6.out; have HG := Lib.hid hG; clear hG; by_cases c : j2 < i2
    ·have PE := part_first_break ltInt d a b pivot rfl rfl HDK.out HI2.out.symm HJ2.out.symm c
     have HPE := Lib.hid PE; clear PE; have hc1 := hcw j2 zk6; have hc2 := hcw a zk6; obtain ⟨v', hy'⟩ := cell?_setCell_some (w := wc) (p := ⟨blk, off + j2, none⟩) (x := .int .u64 (G a)) (q := ⟨blk, off + a, none⟩) (v := .int .u64 (G a)) hc2; go_wp2; go_region
     all_goals
      go_wp2; refine bodyPost_ret (v := .tuple #[.int .i64 j2, .bool true]) (by simp [results, Try.results126, go_sem]) rfl ⟨by rw [HPE.out], _, by rw [HPE.out]; exact swapU (q := 1) HW6.out zk6 zk6 (HG.out _) (HG.out _)⟩
    ·have PE := part_first_go ltInt d a b pivot rfl rfl HDK.out HI2.out.symm HJ2.out.symm c
     have hlt := part_scans_lt ltInt a (a + 1) (b - 1) dk zk6 HI2.out.symm HJ2.out.symm zk6; have hs2 : (swp dk i2 j2).size = d.size := zk180
     have SW : ((wc.setCell ⟨blk, off + i2, none⟩ (.int .u64 (G j2))).setCell ⟨blk, off + j2, none⟩ (.int .u64 (G i2))).drew = putRow (Value.int .u64) (Sort.ahead w (m4 + 1)) blk off (swp dk i2 j2) := swapU (q := 1) HW6.out zk6 zk6 (HG.out _) (HG.out _); obtain ⟨d1, hd1⟩ : ∃ d1, swp dk i2 j2 = d1 := ⟨_, rfl⟩
     rw [hd1] at PE hs2 SW; have HPE := Lib.hid PE; have HSW := Lib.hid SW; clear PE SW hd1; go_wp2; go_region
     all_goals
      go_wp2; refine name_world _ (fun W7 HW7 => ?_); have HW8 : Hid (W7 = putRow (Value.int .u64) (Sort.ahead w (m4 + 1)) blk off d1) := Lib.hid (by rw [← HW7.out]; exact HSW.out); clear HW7 HSW hcw hfw; go_loopw [10, 11] (fun vi vj wr => ∃ (i j n : Nat) (dj : Array Int), vi = .int .i64 i ∧ vj = .int .i64 j ∧ a < i ∧ i ≤ j + 1 ∧ j < b ∧ dj.size = d.size ∧ wr = putRow (Value.int .u64) (Sort.ahead w n) blk off dj ∧ partLoop ltInt a i j dj = partLoop ltInt a (i2 + 1) (j2 - 1) d1) (fun vi _ _ => b + 1 - (intOf vi).toNat)
      case atStart => exact ⟨i2 + 1, j2 - 1, m4 + 1, d1, zk176, zk183, zk6, zk6, zk6, hs2, HW8.out, rfl⟩
      case round =>
       obtain ⟨i, j, n, dj, rfl, rfl, hai, hij, hjb, hsj, hwr, hO⟩ := hrel; have HO := Lib.hid hO; have HW := Lib.hid hwr; clear hO hwr; go_upto_block 6 with (fail)
       go_cut [10] (fun v wc => ∃ (i2 m2 : Nat), v = .int .i64 i2 ∧ Hid (scanUp (fun x => ltInt x dj[a]!) dj j i = i2) ∧ i ≤ i2 ∧ i2 ≤ j + 1 ∧ Hid (wc = putRow (Value.int .u64) (Sort.ahead w m2) blk off dj))
       case first =>
        go_wp2; go_loopw [10] (fun v wr2 => ∃ (t m2 : Nat), v = .int .i64 t ∧ i ≤ t ∧ t ≤ j + 1 ∧ wr2 = putRow (Value.int .u64) (Sort.ahead w m2) blk off dj ∧ scanUp (fun x => ltInt x dj[a]!) dj j t = scanUp (fun x => ltInt x dj[a]!) dj j i) (fun v _ => j + 1 - (intOf v).toNat)
        case atStart => exact ⟨i, _, rfl, Nat.le_refl _, zk6, HW.out, rfl⟩
        case round =>
         obtain ⟨t, m2, rfl, ht1, ht2, hw2, hI⟩ := hrel; obtain ⟨G, hG, hcw, hfw⟩ := famU hH hsj hw2; have HI := Lib.hid hI; have HG := Lib.hid hG; have HW2 := Lib.hid hw2; clear hI hG hw2; by_cases c : t ≤ j
         ·go_wp2
          go_quiet (first | (go_at_call 124; exact Calls.quiet_of_same (less_u _ _ _)) | (go_at_call 124; exact quiet_add_same (less_u _ _ _)))
          go_wp2
          ·have hl : ltInt (G t) (G a) = true := by assumption
           go_roundw
           case rel => exact ⟨t + 1, _, zk176, zk6, zk6, zk67, by rw [← HI.out, scanUp_go (fun x => ltInt x dj[a]!) dj j t c (by show (ltInt dj[t]! dj[a]!) = true; rw [← HG.out, ← HG.out]; simpa using hl)]⟩
           case measure => simp [intOf]; omega
          ·have hl : ltInt (G t) (G a) = false := by assumption
           go_meet
           case rel => exact ⟨t, _, rfl, Lib.hid (by rw [← HI.out, scanUp_end (fun x => ltInt x dj[a]!) dj j t (.inr (by show (ltInt dj[t]! dj[a]!) = false; rw [← HG.out, ← HG.out]; simpa using hl))]), ht1, ht2, Lib.hid zk67⟩
         ·go_wp2
          go_quiet (first | (go_at_call 124; exact Calls.quiet_of_same (less_u _ _ _)) | (go_at_call 124; exact quiet_add_same (less_u _ _ _)))
          go_wp2; go_meet
          case rel => exact ⟨t, _, rfl, Lib.hid (by rw [← HI.out, scanUp_end (fun x => ltInt x dj[a]!) dj j t (.inl c)]), ht1, ht2, Lib.hid zk67⟩
       case rest =>
        obtain ⟨i3, m5, rfl, HI3, hi3, hi3j, HW9⟩ := hcut; go_upto_block 8 with (fail)
        go_cut [11] (fun v wc => ∃ (j2 m2 : Nat), v = .int .i64 j2 ∧ Hid (scanDown (fun x => !ltInt x dj[a]!) dj i3 j = j2) ∧ j2 ≤ j ∧ i3 ≤ j2 + 1 ∧ Hid (wc = putRow (Value.int .u64) (Sort.ahead w m2) blk off dj))
        case first =>
         go_wp2; go_loopw [11] (fun v wr2 => ∃ (t m2 : Nat), v = .int .i64 t ∧ t ≤ j ∧ i3 ≤ t + 1 ∧ wr2 = putRow (Value.int .u64) (Sort.ahead w m2) blk off dj ∧ scanDown (fun x => !ltInt x dj[a]!) dj i3 t = scanDown (fun x => !ltInt x dj[a]!) dj i3 j) (fun v _ => (intOf v).toNat)
         case atStart => exact ⟨j, _, rfl, Nat.le_refl _, zk6, HW9.out, rfl⟩
         case round =>
          obtain ⟨t, m2, rfl, ht1, ht2, hw2, hI⟩ := hrel; obtain ⟨G, hG, hcw, hfw⟩ := famU hH hsj hw2; have HI := Lib.hid hI; have HG := Lib.hid hG; have HW2 := Lib.hid hw2; clear hI hG hw2; by_cases c : i3 ≤ t
          ·go_wp2
           go_quiet (first | (go_at_call 124; exact Calls.quiet_of_same (less_u _ _ _)) | (go_at_call 124; exact quiet_add_same (less_u _ _ _)))
           go_wp2
           ·have hl : (!ltInt (G t) (G a)) = true := by assumption
            go_roundw
            case rel => exact ⟨t - 1, _, zk179, zk6, zk6, zk67, by rw [← HI.out, scanDown_go (fun x => !ltInt x dj[a]!) dj i3 t c zk6 (by show ((!ltInt dj[t]! dj[a]!)) = true; rw [← HG.out, ← HG.out]; simpa using hl)]⟩
            case measure => simp [intOf]; omega
           ·have hl : (!ltInt (G t) (G a)) = false := by assumption
            go_meet
            case rel => exact ⟨t, _, rfl, Lib.hid (by rw [← HI.out, scanDown_end (fun x => !ltInt x dj[a]!) dj i3 t (.inr (by show ((!ltInt dj[t]! dj[a]!)) = false; rw [← HG.out, ← HG.out]; simpa using hl))]), ht1, ht2, Lib.hid zk67⟩
          ·go_wp2
           go_quiet (first | (go_at_call 124; exact Calls.quiet_of_same (less_u _ _ _)) | (go_at_call 124; exact quiet_add_same (less_u _ _ _)))
           go_wp2; go_meet
           case rel => exact ⟨t, _, rfl, Lib.hid (by rw [← HI.out, scanDown_end (fun x => !ltInt x dj[a]!) dj i3 t (.inl c)]), ht1, ht2, Lib.hid zk67⟩
        case rest =>
         obtain ⟨j3, m6, rfl, HJ3, hj3, hij3, HW10⟩ := hcut; obtain ⟨G, hG, hcw, hfw⟩ := famU hH hsj HW10.out; have HG := Lib.hid hG; clear hG; by_cases c2 : j3 < i3
         ·have PL := part_break ltInt a i j dj HI3.out.symm HJ3.out.symm c2
          rw [HO.out] at PL; have PE := HPE.out; rw [PL] at PE; have HPE2 := Lib.hid PE; clear PL PE; have hc1 := hcw j3 zk6; have hc2 := hcw a zk6; obtain ⟨v', hy'⟩ := cell?_setCell_some (w := wc) (p := ⟨blk, off + j3, none⟩) (x := .int .u64 (G a)) (q := ⟨blk, off + a, none⟩) (v := .int .u64 (G a)) hc2; go_wp2; go_region
          all_goals
           go_wp2; refine bodyPost_ret (v := .tuple #[.int .i64 j3, .bool false]) (by simp [results, Try.results126, go_sem]) rfl ⟨by rw [HPE2.out], _, by rw [HPE2.out]; exact swapU (q := 1) HW10.out zk6 zk6 (HG.out _) (HG.out _)⟩
         ·have PL := part_go ltInt a i j dj HI3.out.symm HJ3.out.symm c2
          have hlt3 := part_scans_lt ltInt a i j dj zk6 HI3.out.symm HJ3.out.symm zk6; rw [HO.out] at PL; have HPL := Lib.hid PL; clear PL; go_wp2; go_region
          all_goals go_wp2
          go_roundw
          case rel => exact ⟨i3 + 1, j3 - 1, _, swp dj i3 j3, zk176, zk179, zk6, zk6, zk6, zk204, swapU (q := 1) HW10.out zk6 zk6 (HG.out _) (HG.out _), HPL.out.symm⟩
          case measure => simp [intOf]; omega
end Go.Proofs.Ytplgffbfepnihaa
namespace Go.Proofs.Ytplgffbfepnihaa
open Go.RowKit Go.Sort Go.Proofs Go.Proofs.YtplgffbfepnihaaW.PrintWords
theorem holds_heap {α : Type} [Inhabited α] {enc : α → Value} {w w' : World} {blk off : Nat} {d : Array α} (h : Holds enc w blk off d) (he : w'.heap[blk]? = w.heap[blk]?) : Holds enc w' blk off d := fun j hj => by
 have := h j hj; unfold World.cell? World.frozen? at *; simp only [he]; exact this
def QS (w : World) (blk off : Nat) (d : Array Int) (sb : Nat) : Prop := Holds (Value.int .u64) w blk off d ∧ (∃ s : Int, w.heap[sb]? = some (.cells #[.int .i64 s] 3 (0, 0))) ∧ sb ≠ blk
def KX (w w' : World) (sb : Nat) : Prop := w'.heap.size = w.heap.size ∧ (∀ i, i ≠ sb → w'.heap[i]? = w.heap[i]?) ∧ w'.os = w.os ∧ w'.tape = w.tape ∧ w'.output = w.output
theorem KX.refl (w : World) (sb : Nat) : KX w w sb := ⟨rfl, fun _ _ => rfl, rfl, rfl, rfl⟩
theorem KX.trans {a b c : World} {sb : Nat} (h : KX a b sb) (k : KX b c sb) : KX a c sb := ⟨k.1.trans h.1, fun i hi => (k.2.1 i hi).trans (h.2.1 i hi), k.2.2.1.trans h.2.2.1, k.2.2.2.1.trans h.2.2.2.1, k.2.2.2.2.trans h.2.2.2.2⟩
theorem QS.step {w w' : World} {blk off : Nat} {d : Array Int} {sb : Nat} (h : QS w blk off d sb) (t : Int) (n : Nat) : QS ((w.drewN n).setCell ⟨sb, 0, none⟩ (.int .i64 t)) blk off d sb ∧ KX w ((w.drewN n).setCell ⟨sb, 0, none⟩ (.int .i64 t)) sb := by
 obtain ⟨h1, ⟨s, h2⟩, h3⟩ := h; refine ⟨⟨holds_heap h1 (Below.heap_setCell (w.drewN n) ⟨sb, 0, none⟩ _ blk (Ne.symm h3)), ⟨t, ?_⟩, h3⟩, ?_⟩
 ·exact blk_set (blk_drewN h2 n) 0 (.int .i64 t)
 ·refine ⟨zk56, fun i hi => Below.heap_setCell (w.drewN n) ⟨sb, 0, none⟩ _ i hi, ?_, ?_, ?_⟩ <;> rfl
set_option maxHeartbeats 1000000 in
theorem order2_u (blk off len cap a b sb : Nat) (d : Array Int) (hlen : d.size = len) (w : World) (h : QS w blk off d sb) (ha : a < d.size) (hb : b < d.size) (hsz : d.size < 4611686018427387904) :
  Calls Try.prog 136 #[.slice (some ⟨blk, off, none⟩) len cap, .int .i64 a, .int .i64 b, .pointer (some ⟨sb, 0, none⟩)] w fun e w' =>
   ∃ x y : Nat, e = .returned (.tuple #[.int .i64 x, .int .i64 y]) ∧ ((x = a ∧ y = b) ∨ (x = b ∧ y = a)) ∧ QS w' blk off d sb ∧ KX w w' sb := by
 subst hlen; obtain ⟨h1, ⟨s, h2⟩, h3⟩ := id h; obtain ⟨G, hG, hcw, hfw⟩ := famU h1 rfl (selfU h1); have hca := hcw a ha; have hcb := hcw b hb; have hcs : w.cell? ⟨sb, 0, none⟩ = some (.int .i64 s) := blk_cell h2 0; have hfs : w.frozen? ⟨sb, 0, none⟩ = false := blk_frozen h2 0; have H := Lib.hid h; clear hG hcw hfw h1 h2 h3 h; go_enter Try.func136, Try.ntmps136; go_wp2; go_quiet (first | (go_at_call 124; exact Calls.quiet_of_same (less_u _ _ _)))
 go_wp2
 ·refine bodyPost_ret (v := .tuple #[.int .i64 b, .int .i64 a]) (by simp [results, Try.results136, go_sem]) rfl ⟨b, a, rfl, .inr ⟨rfl, rfl⟩, ?_⟩; exact (H.out.step (w' := w) _ _)
 ·refine bodyPost_ret (v := .tuple #[.int .i64 a, .int .i64 b]) (by simp [results, Try.results136, go_sem]) rfl ⟨a, b, rfl, .inl ⟨rfl, rfl⟩, H.out, ?_⟩; exact ⟨rfl, fun _ _ => rfl, rfl, rfl, rfl⟩
set_option maxHeartbeats 1000000 in
theorem median_u (blk off len cap a b c sb : Nat) (d : Array Int) (hlen : d.size = len) (w : World) (h : QS w blk off d sb) (ha : a < d.size) (hb : b < d.size) (hc : c < d.size) (hsz : d.size < 4611686018427387904) :
  Calls Try.prog 134 #[.slice (some ⟨blk, off, none⟩) len cap, .int .i64 a, .int .i64 b, .int .i64 c, .pointer (some ⟨sb, 0, none⟩)] w fun e w' =>
   ∃ x : Nat, e = .returned (.int .i64 x) ∧ (x = a ∨ x = b ∨ x = c) ∧ QS w' blk off d sb ∧ KX w w' sb := by
 subst hlen; have C := fun w h x y hx hy => order2_u blk off d.size cap x y sb d rfl w h hx hy hsz; go_enter Try.func134, Try.ntmps134; (go_wp2_with (go_at_call 136; refine (C _ h _ _ ha hb).mono ?_; rintro e w1 ⟨x1, y1, rfl, h1, q1, k1⟩; clear h)); have hx1 : x1 < d.size := zk6
 have hy1 : y1 < d.size := zk6
 go_wp2_with (go_at_call 136; refine (C _ q1 _ _ hy1 hc).mono ?_; rintro e w2 ⟨x2, y2, rfl, h2, q2, k2⟩; clear q1)
 have hx2 : x2 < d.size := zk6
 go_wp2_with (go_at_call 136; refine (C _ q2 _ _ hx1 hx2).mono ?_; rintro e w3 ⟨x3, y3, rfl, h3, q3, k3⟩; clear q2)
 go_ret
 exact ⟨y3, rfl, zk6, q3, (k1.trans k2).trans k3⟩
set_option maxHeartbeats 1000000 in
theorem medianAdjacent_u (blk off len cap a sb : Nat) (d : Array Int) (hlen : d.size = len) (w : World) (h : QS w blk off d sb) (h0 : 1 ≤ a) (ha : a + 1 < d.size) (hsz : d.size < 4611686018427387904) :
  Calls Try.prog 133 #[.slice (some ⟨blk, off, none⟩) len cap, .int .i64 a, .pointer (some ⟨sb, 0, none⟩)] w fun e w' =>
   ∃ x : Nat, e = .returned (.int .i64 x) ∧ (x = a - 1 ∨ x = a ∨ x = a + 1) ∧ QS w' blk off d sb ∧ KX w w' sb := by
 subst hlen; have C := median_u blk off d.size cap (a - 1) a (a + 1) sb d rfl w h zk6 zk6 ha hsz; have e1 : ((a - 1 : Nat) : Int) = (a : Int) - 1 := zk6
 have e2 : ((a + 1 : Nat) : Int) = (a : Int) + 1 := zk6
 rw [e1, e2] at C; clear e1 e2; go_enter Try.func133, Try.ntmps133; (go_wp2_with (go_at_call 134; refine C.mono ?_; rintro e w1 ⟨x1, rfl, h1, q1, k1⟩)); go_ret
 exact ⟨x1, rfl, h1, q1, k1⟩
end Go.Proofs.Ytplgffbfepnihaa
namespace Go.Proofs.Ytplgffbfepnihaa
open Go.RowKit Go.Sort Go.Proofs Go.Proofs.YtplgffbfepnihaaW.PrintWords
theorem KX.below {w w1 : World} {o : Obj} (h : KX (w.alloc o) w1 w.heap.size) : Below w.heap.size w w1 :=
 ⟨h.2.2.1, h.2.2.2.1, h.2.2.2.2, by rw [h.1]; simp, fun k hk => by rw [h.2.1 k zk6]; exact Below.heap_alloc w o k hk⟩
theorem QS.start {w : World} {blk off : Nat} {d : Array Int} (h : Holds (Value.int .u64) w blk off d) (hb : blk < w.heap.size) : QS (w.alloc (.cells #[.int .i64 0] 3)) blk off d w.heap.size :=
 ⟨holds_heap h (Below.heap_alloc w _ blk hb), ⟨0, blk_new w _⟩, zk6⟩
set_option maxHeartbeats 2000000 in
set_option maxRecDepth 100000 in
theorem choosePivot_u (blk off len cap a b : Nat) (d : Array Int) (hlen : d.size = len) (w : World) (h : Holds (Value.int .u64) w blk off d) (hblk : blk < w.heap.size) (hab : a < b) (hb : b ≤ d.size) (hsz : d.size < 4611686018427387904) :
  Calls Try.prog 121 #[.slice (some ⟨blk, off, none⟩) len cap, .int .i64 a, .int .i64 b] w fun e w' =>
   ∃ p hint : Nat, e = .returned (.tuple #[.int .i64 p, .int .i64 hint]) ∧ a ≤ p ∧ p < b ∧ hint ≤ 2 ∧ Below w.heap.size w w' := by
 subst hlen; obtain ⟨l, hl⟩ : ∃ l : Nat, (b : Int) - (a : Int) = l := ⟨b - a, zk6⟩
 obtain ⟨i, hi⟩ : ∃ i : Nat, a + l / 4 * 1 = i := ⟨_, rfl⟩
 obtain ⟨j, hj⟩ : ∃ i : Nat, a + l / 4 * 2 = i := ⟨_, rfl⟩
 obtain ⟨k, hk⟩ : ∃ i : Nat, a + l / 4 * 3 = i := ⟨_, rfl⟩
 have e1 : (a : Int) + (l : Int) / 4 = (i : Int) := zk6
 have e2 : (a : Int) + (l : Int) / 4 * 2 = (j : Int) := zk6
 have e3 : (a : Int) + (l : Int) / 4 * 3 = (k : Int) := zk6
 have q0 := QS.start h hblk; have k0 := KX.refl (w.alloc (.cells #[.int .i64 0] 3)) w.heap.size; have HL := Lib.hid hl; have E1 := Lib.hid e1; have E2 := Lib.hid e2; have E3 := Lib.hid e3; have jr : a ≤ j ∧ j < b := zk6
 have HI := Lib.hid hi; have HJ := Lib.hid hj; have HK := Lib.hid hk; have bl : b = a + l := zk6
 have BL := Lib.hid bl; clear hl e1 e2 e3 h hi hj hk bl; go_enter Try.func121, Try.ntmps121; go_upto_if 32 with (fail)
 rw [HL.out, E1.out, E2.out, E3.out]; go_cut [11] (fun v wc => ∃ p : Nat, v = .int .i64 p ∧ a ≤ p ∧ p < b ∧ QS wc blk off d w.heap.size ∧ KX (w.alloc (.cells #[.int .i64 0] 3)) wc w.heap.size)
 case first =>
  by_cases h8 : 8 ≤ l
  ·have hi := HI.out; have hj := HJ.out; have hk := HK.out; have bl := BL.out
   have r1 : 1 ≤ i ∧ i + 1 < b := zk6
   have r2 : 1 ≤ j ∧ j + 1 < b := zk6
   by_cases h50 : 50 ≤ l
   ·have r1' : a ≤ i - 1 ∧ 1 ≤ i ∧ i + 1 < b := by omega
    have r2' : a ≤ j - 1 ∧ 1 ≤ j ∧ j + 1 < b := zk6
    have r3' : a ≤ k - 1 ∧ 1 ≤ k ∧ k + 1 < b := zk6
    have C := fun w1 h x h1 h2 => medianAdjacent_u blk off d.size cap x w.heap.size d rfl w1 h h1 h2 hsz; have M := fun w1 h x y z h1 h2 h3 => median_u blk off d.size cap x y z w.heap.size d rfl w1 h h1 h2 h3 hsz; clear hi hj hk bl; (go_wp2_with (go_at_call 133; refine (C _ q0 _ r1'.2.1 zk6).mono ?_; rintro e w1 ⟨x1, rfl, h1, q1, k1⟩; clear q0)); have y1 : a ≤ x1 ∧ x1 < b := zk6
    go_wp2_with (go_at_call 133; refine (C _ q1 _ r2'.2.1 zk6).mono ?_; rintro e w2 ⟨x2, rfl, h2, q2, k2⟩; clear q1)
    have y2 : a ≤ x2 ∧ x2 < b := zk6
    go_wp2_with (go_at_call 133; refine (C _ q2 _ r3'.2.1 zk6).mono ?_; rintro e w3 ⟨x3, rfl, h3, q3, k3⟩; clear q2)
    have y3 : a ≤ x3 ∧ x3 < b := zk6
    go_wp2_with (go_at_call 134; refine (M _ q3 _ _ _ zk6 zk6 zk6).mono ?_; rintro e w4 ⟨x4, rfl, h4, q4, k4⟩; clear q3)
    go_meet
    case rel => exact ⟨x4, rfl, zk6, zk6, q4, (((k0.trans k1).trans k2).trans k3).trans k4⟩
   ·have M := median_u blk off d.size cap i j k w.heap.size d rfl _ q0 zk6 zk6 zk6 hsz
    have r3 : a ≤ i ∧ i < b ∧ a ≤ j ∧ j < b ∧ a ≤ k ∧ k < b := zk6
    clear hi hj hk bl; (go_wp2_with (go_at_call 134; refine M.mono ?_; rintro e w4 ⟨x4, rfl, h4, q4, k4⟩)); go_meet
    case rel => exact ⟨x4, rfl, zk6, zk6, q4, k0.trans k4⟩
  ·go_wp2
   go_meet
   case rel => exact ⟨j, rfl, jr.1, jr.2, q0, k0⟩
 case rest =>
  obtain ⟨p, rfl, p1, p2, q1, k1⟩ := hcut; obtain ⟨_, ⟨s, hs⟩, _⟩ := q1; have hcs := blk_cell hs 0; have hcs' : World.cell? wc ⟨w.heap.size, 0, none⟩ = some (.int .i64 s) := hcs; have KB := Lib.hid k1.below; clear hs hcs k0 k1 q0; by_cases s0 : s = 0
  ·subst s0; go_wp2; refine bodyPost_ret (v := .tuple #[.int .i64 p, .int .i64 (1 : Nat)]) zk197 rfl ⟨p, 1, rfl, p1, p2, zk6, KB.out⟩
  ·have t0 : (s == 0) = false := beq_eq_false_iff_ne.mpr s0
   by_cases s12 : s = 12
   ·subst s12; go_wp2; refine bodyPost_ret (v := .tuple #[.int .i64 p, .int .i64 (2 : Nat)]) zk197 rfl ⟨p, 2, rfl, p1, p2, zk6, KB.out⟩
   ·have t12 : (s == 12) = false := beq_eq_false_iff_ne.mpr s12; go_wp2; refine bodyPost_ret (v := .tuple #[.int .i64 p, .int .i64 (0 : Nat)]) zk197 rfl ⟨p, 0, rfl, p1, p2, zk6, KB.out⟩
end Go.Proofs.Ytplgffbfepnihaa
namespace Go.Proofs.Ytplgffbfepnihaa
open Go.RowKit Go.Sort Go.Proofs Go.Proofs.YtplgffbfepnihaaW.PrintWords
theorem npot_u (n : Nat) (hn : n < 4611686018427387904) (w : World) :
  Calls Try.prog 131 #[.int .i64 n] w fun e w' => e = .returned (.int .u64 ((1 <<< bitsLen n : Nat) : Int)) ∧ w' = w := by
 have hLen : ∀ w, Calls Try.prog 107 #[.int .u64 (n : Int)] w fun e w' => e = .returned (.int .i64 (bitsLen n : Nat)) ∧ w' = w := fun w => by
  have h := Try.bits_Len (n : Int) w zk6 zk6
  rwa [Int.toNat_natCast, bitLen_eq _ zk6] at h
 have hk : bitsLen n ≤ 62 := (bitsLen_le_iff n 62).2 zk6; have hp := wrap_two_pow (bitsLen n) hk; have wr : IntKind.u64.wrap (n : Int) = n := zk144
 go_enter Try.func131, Try.ntmps131; (go_wp2_with (first | (go_at_call 107; refine (hLen _).mono ?_; rintro e w' ⟨rfl, rfl⟩))); go_ret
 exact zk247
theorem xor_u (a b : Nat) (ha : a < 18446744073709551616) (hb : b < 18446744073709551616) : ∃ c : Nat, c < 18446744073709551616 ∧ bits .xor .u64 (a : Int) (b : Int) = (c : Int) :=
 ⟨a ^^^ b, Nat.xor_lt_two_pow (n := 64) ha hb, bits_xor_u64_nat _ _ ha hb⟩
set_option maxHeartbeats 2000000 in
theorem next_u (rb X : Nat) (hX : X < 18446744073709551616) (w : World) (hc : w.cell? ⟨rb, 0, none⟩ = some (.int .u64 X)) (hf : w.frozen? ⟨rb, 0, none⟩ = false) :
  Calls Try.prog 132 #[.pointer (some ⟨rb, 0, none⟩)] w fun e w' => ∃ Y : Nat, Y < 18446744073709551616 ∧ e = .returned (.int .u64 Y) ∧ w' = (w.setCell ⟨rb, 0, none⟩ (.int .u64 Y)).drewN 3 := by
 obtain ⟨A, lA, e1⟩ : ∃ A : Nat, A < 18446744073709551616 ∧ bits .xor .u64 (X : Int) (IntKind.u64.wrap ((X : Int) * 8192)) = (A : Int) := by
  rw [IntKind.wrap_u64, show ((X : Int) * 8192 % 18446744073709551616) = ((X * 8192 % 18446744073709551616 : Nat) : Int) by omega]; exact xor_u _ _ hX zk6
 obtain ⟨B, lB, e2⟩ : ∃ B : Nat, B < 18446744073709551616 ∧ bits .xor .u64 (A : Int) ((A : Int) / 128) = (B : Int) := by
  rw [show ((A : Int) / 128) = ((A / 128 : Nat) : Int) by omega]; exact xor_u _ _ lA zk6
 obtain ⟨C, lC, e3⟩ : ∃ C : Nat, C < 18446744073709551616 ∧ bits .xor .u64 (B : Int) (IntKind.u64.wrap ((B : Int) * 131072)) = (C : Int) := by
  rw [IntKind.wrap_u64, show ((B : Int) * 131072 % 18446744073709551616) = ((B * 131072 % 18446744073709551616 : Nat) : Int) by omega]; exact xor_u _ _ lB zk6
 have hss : ∀ v v', (w.setCell ⟨rb, 0, none⟩ v).setCell ⟨rb, 0, none⟩ v' = w.setCell ⟨rb, 0, none⟩ v' := setCell_setCell w rb 0; go_enter Try.func132, Try.ntmps132; go_wp2; go_region
 (all_goals go_wp2); (all_goals go_region); (all_goals go_wp2); (all_goals go_region); (all_goals go_wp2); go_ret
 exact ⟨C, lC, rfl, rfl⟩
theorem putRow_heap (w : World) (blk off k : Nat) (d : Array Int) (h : k ≠ blk) : (putRow (Value.int .u64) w blk off d).heap[k]? = w.heap[k]? := by
 unfold putRow mapBlock; simp only [Array.getElem?_modify]; rw [if_neg (Ne.symm h)]
def SU (w0 w : World) (blk off : Nat) (d : Array Int) : Prop := Go.RowKit.Below w0.heap.size (putRow (Value.int .u64) w0 blk off d) w
theorem SU.start {w : World} {blk off : Nat} {d : Array Int} (h : Holds (Value.int .u64) w blk off d) : SU w w blk off d := by
 unfold SU; rw [putRow_self _ _ _ _ _ h]; exact Go.RowKit.Below.refl _ _
theorem SU.holds {w0 w : World} {blk off : Nat} {d0 d : Array Int} (h : SU w0 w blk off d) (hH : Holds (Value.int .u64) w0 blk off d0) (hs : d.size = d0.size) (hb : blk < w0.heap.size) : Holds (Value.int .u64) w blk off d :=
 holds_heap (holds_putRow _ _ _ _ d0 d hH hs) (h.block blk hb)
theorem SU.size {w0 w : World} {blk off : Nat} {d : Array Int} (h : SU w0 w blk off d) : w0.heap.size ≤ w.heap.size := by
 have := Go.RowKit.Below.size h; simpa using this
theorem SU.put {w0 w : World} {blk off : Nat} {d : Array Int} (h : SU w0 w blk off d) (d' : Array Int) (hs : d'.size = d.size) (n : Nat) : SU w0 (putRow (Value.int .u64) (Sort.ahead w n) blk off d') blk off d' := by
 unfold SU; rw [show putRow (Value.int .u64) w0 blk off d' = putRow (Value.int .u64) (putRow (Value.int .u64) w0 blk off d) blk off d' from (putRow_putRow _ _ _ _ _ _ hs).symm]; refine ⟨h.os, h.tape, h.output, by simpa using h.size, fun k hk => ?_⟩; by_cases e : k = blk
 ·subst e; have := h.block k hk; unfold putRow mapBlock at *; simp only [Array.getElem?_modify, if_true] at *; rw [show (Sort.ahead w n).heap = w.heap from rfl, this]
 ·rw [putRow_heap _ _ _ _ _ e, putRow_heap _ _ _ _ _ e]; exact h.block k hk
theorem SU.then {w0 w w' : World} {blk off : Nat} {d : Array Int} (h : SU w0 w blk off d) (k : Go.RowKit.Below w.heap.size w w') : SU w0 w' blk off d :=
 Go.RowKit.Below.trans h (k.mono h.size)
end Go.Proofs.Ytplgffbfepnihaa
namespace Go.Proofs.Ytplgffbfepnihaa
open Go.RowKit Go.Sort Go.Proofs Go.Proofs.YtplgffbfepnihaaW.PrintWords
theorem SU.round {w wr : World} {blk off : Nat} {d : Array Int} (h : SU w wr blk off d) {d0 : Array Int} (hH : Holds (Value.int .u64) w blk off d0) (hs : d.size = d0.size) (hb : blk < w.heap.size) (Y : Nat) {j k : Nat} (hj : j < d.size) (hk : k < d.size) {x y : Int} (hx : x = d[k]!) (hy : y = d[j]!) (q : Nat) :
  SU w (((((wr.setCell ⟨w.heap.size, 0, none⟩ (.int .u64 Y)).drewN q).setCell ⟨blk, off + j, none⟩ (.int .u64 x)).setCell ⟨blk, off + k, none⟩ (.int .u64 y))) blk off (swp d j k) := by
 have h1 : SU w (wr.setCell ⟨w.heap.size, 0, none⟩ (.int .u64 Y)) blk off d := Go.RowKit.Below.setCell h (Nat.le_refl _) _; have h2 := h1.holds hH hs hb; have e := swapU (selfU h2) (q := q) hj hk hx hy; rw [e]; exact h1.put _ (size_swp d j k) _
theorem gen_round {wr : World} {gb blk off : Nat} {X : Int} (hg : wr.heap[gb]? = some (.cells #[.int .u64 X] 155 (0, 0))) (hne : gb ≠ blk) (Y : Nat) (q j k : Nat) (x y : Value) :
  (((((wr.setCell ⟨gb, 0, none⟩ (.int .u64 Y)).drewN q).setCell ⟨blk, off + j, none⟩ x).setCell ⟨blk, off + k, none⟩ y)).heap[gb]? = some (.cells #[.int .u64 Y] 155 (0, 0)) := by
 rw [Below.heap_setCell _ ⟨blk, off + k, none⟩ _ gb hne, Below.heap_setCell _ ⟨blk, off + j, none⟩ _ gb hne]; exact blk_set hg 0 (.int .u64 Y)
theorem and_u (Y M : Nat) (hY : Y < 18446744073709551616) (hM : 1 ≤ M) (hM2 : M < 18446744073709551616) : ∃ O : Nat, O ≤ M - 1 ∧ bits .and .u64 (Y : Int) ((M : Int) - 1) = (O : Int) :=
 ⟨Y &&& (M - 1), Nat.and_le_right, by rw [show ((M : Int) - 1) = ((M - 1 : Nat) : Int) by omega, bits_and_u64_nat _ _ hY zk6]⟩
set_option maxHeartbeats 4000000 in
set_option maxRecDepth 100000 in
theorem breakPatterns_u (blk off len cap a b : Nat) (d : Array Int) (hlen : d.size = len) (w : World) (hH : Holds (Value.int .u64) w blk off d) (hblk : blk < w.heap.size) (hab : a ≤ b) (hb : b ≤ d.size) (hsz : d.size < 4611686018427387904) :
  Calls Try.prog 120 #[.slice (some ⟨blk, off, none⟩) len cap, .int .i64 a, .int .i64 b] w fun e w' =>
   e = .returned (.tuple #[]) ∧ ∃ d', PermIn a b d d' ∧ SU w w' blk off d' := by
 subst hlen; obtain ⟨L, rfl⟩ : ∃ L, b = a + L := ⟨b - a, zk6⟩
 obtain ⟨M, hM⟩ : ∃ M : Nat, M = 1 <<< bitsLen L := ⟨_, rfl⟩
 have hNP : ∀ w, Calls Try.prog 131 #[.int .i64 (L : Int)] w fun e w' => e = .returned (.int .u64 (M : Int)) ∧ w' = w := by rw [hM]; exact fun w => npot_u L zk6 w
 have st := SU.start hH; have eL : (a : Int) + (L : Int) - (a : Int) = (L : Int) := zk6
 have HH := Lib.hid hH; by_cases h8 : 8 ≤ L
 ·have hM1 : 1 ≤ M := by rw [hM, Nat.one_shiftLeft]; exact Nat.two_pow_pos _
  have hM2 : M ≤ 2 * L := by rw [hM, Nat.one_shiftLeft]; exact two_pow_bitsLen_le zk6
  have st2 : SU w (w.alloc (.cells #[.int .u64 (L : Int)] 155)) blk off d := Go.RowKit.Below.alloc st zk56 _; have ng : (w.alloc (.cells #[.int .u64 (L : Int)] 155)).heap[w.heap.size]? = some (.cells #[.int .u64 (L : Int)] 155 (0, 0)) := blk_new w _; have ST := Lib.hid st2; have NG := Lib.hid ng; have EL := Lib.hid eL; clear hM hH st st2 ng eL; go_enter Try.func120, Try.ntmps120; (go_wp2_with (first | (go_at_call 131; rw [EL.out]; refine (hNP _).mono ?_; rintro e w' ⟨rfl, rfl⟩)))
  go_loopw [9] (fun vi wr => ∃ (t X : Nat) (dk : Array Int), vi = .int .i64 ((a + L / 4 * 2 - 1 + t : Nat) : Int) ∧ t ≤ 3 ∧ X < 18446744073709551616 ∧ PermIn a (a + L) d dk ∧ SU w wr blk off dk ∧
    wr.heap[w.heap.size]? = some (.cells #[.int .u64 (X : Int)] 155 (0, 0))) (fun vi _ => a + L / 4 * 2 + 3 - (intOf vi).toNat)
  case atStart => exact ⟨0, L, d, zk179, zk6, zk6, permIn_refl _ _ _, ST.out, NG.out⟩
  case round =>
   obtain ⟨t, X, dk, rfl, ht, hX, hp, hs, hg⟩ := hrel; have hsk : dk.size = d.size := hp.1; have hh := hs.holds HH.out hsk hblk; obtain ⟨G, hG, hcw, hfw⟩ := famU hh rfl (selfU hh); have N := next_u w.heap.size X hX wr (blk_cell hg 0) (blk_frozen hg 0); have HS := Lib.hid hs; have HP := Lib.hid hp; have HG := Lib.hid hG; have GG := Lib.hid hg; have hne : w.heap.size ≠ blk := zk6
   clear hs hp hh hG hg; (go_wp2_with (first | (go_at_call 132; refine N.mono ?_; rintro e w' ⟨Y, hY, rfl, rfl⟩; clear N; obtain ⟨O, lO, eO⟩ := and_u Y M hY hM1 zk6)))
   ·have hLO : L ≤ O := by omega
    by_cases hEq : a + L / 4 * 2 - 1 + t = a + (O - L)
    all_goals
     go_region
     all_goals go_wp2
     go_roundw
     case rel =>
      refine ⟨t + 1, Y, swp dk (a + L / 4 * 2 - 1 + t) (a + (O - L)), by first | rfl | (congr 1 <;> omega), zk6, hY, permIn_trans _ _ _ _ _ HP.out (swp_permIn _ _ _ _ _ zk6 zk6 zk6 zk6 zk6), ?_, ?_⟩
      ·exact zk233
      ·(try rw [hEq]); exact gen_round GG.out hne Y _ _ _ _ _
     case measure => simp [intOf]; omega
   ·have hLO : ¬ L ≤ O := by omega
    by_cases hEq : a + L / 4 * 2 - 1 + t = a + O
    all_goals
     go_region
     all_goals go_wp2
     go_roundw
     case rel =>
      refine ⟨t + 1, Y, swp dk (a + L / 4 * 2 - 1 + t) (a + O), by first | rfl | (congr 1 <;> omega), zk6, hY, permIn_trans _ _ _ _ _ HP.out (swp_permIn _ _ _ _ _ zk6 zk6 zk6 zk6 zk6), ?_, ?_⟩
      ·exact zk233
      ·(try rw [hEq]); exact gen_round GG.out hne Y _ _ _ _ _
     case measure => simp [intOf]; omega
   ·go_end0
    exact ⟨rfl, dk, HP.out, HS.out⟩
 ·have ST := Lib.hid st; have EL := Lib.hid eL
  clear hM hH st eL hNP; go_enter Try.func120, Try.ntmps120; go_wp2; go_end0
  exact ⟨rfl, d, permIn_refl _ _ _, ST.out⟩
end Go.Proofs.Ytplgffbfepnihaa
namespace Go.Proofs.Ytplgffbfepnihaa
open Go.RowKit Go.Sort Go.Proofs Go.Proofs.YtplgffbfepnihaaW.PrintWords
theorem SU.trans {w0 w1 w2 : World} {blk off : Nat} {d d' : Array Int} (h : SU w0 w1 blk off d) (k : SU w1 w2 blk off d') (hs : d'.size = d.size) : SU w0 w2 blk off d' :=
 (h.put d' hs 0).then (Go.RowKit.Below.mono k zk56)
theorem SU.draws {w0 w1 : World} {blk off : Nat} {d : Array Int} (h : SU w0 w1 blk off d) (n : Nat) : SU w0 (w1.drewN n) blk off d := ⟨h.os, h.tape, h.output, by have := Go.RowKit.Below.size h; simpa using this, h.block⟩
set_option maxHeartbeats 6400000 in
set_option maxRecDepth 1000000 in
theorem pdqsort_u : ∀ (N blk off len cap a b limit : Nat) (d : Array Int) (_ : d.size = len) (w : World), b - a < N → Holds (Value.int .u64) w blk off d → blk < w.heap.size → a ≤ b → b ≤ d.size → d.size < 4611686018427387904 → limit < 4611686018427387904 → Below ltInt a b d →
  Calls Try.prog 106 #[.slice (some ⟨blk, off, none⟩) len cap, .int .i64 a, .int .i64 b, .int .i64 limit] w fun e w' => e = .returned (.tuple #[]) ∧ ∃ d', (PermIn a b d d' ∧ SortedIn ltInt a b d') ∧ SU w w' blk off d' := by
 intro N
 induction N with
 | zero => intro _ _ _ _ _ _ _ _ _ _ h; exact absurd h (Nat.not_lt_zero _)
 | succ N ih =>
  intro blk off len cap a b limit d hlen w hN hH hblk hab hb hsz hlimit hBel0; have HH := Lib.hid hH; have ST := Lib.hid (SU.start hH); have HB0 := Lib.hid hBel0; have IH := Lib.hid ih; clear hH hBel0 ih; go_enter Try.func106, Try.ntmps106; go_wp2
  go_loopg [1, 2, 3, 8, 9] (b - a) (fun k s1 s2 s3 s8 s9 wr => ∃ (a' b' lim : Nat) (wb wp : Bool) (dk : Array Int), s1 = .int .i64 a' ∧ s2 = .int .i64 b' ∧ s3 = .int .i64 lim ∧ s8 = .bool wb ∧ s9 = .bool wp ∧
   a' ≤ b' ∧ b' ≤ d.size ∧ b' - a' ≤ k ∧ k ≤ b - a ∧ lim ≤ limit ∧ dk.size = d.size ∧ Below ltInt a' b' dk ∧ SU w wr blk off dk ∧ ∀ R, PermIn a' b' dk R → SortedIn ltInt a' b' R → PermIn a b d R ∧ SortedIn ltInt a b R)
  case atStart => exact ⟨a, b, limit, true, true, d, rfl, rfl, rfl, rfl, rfl, hab, hb, Nat.le_refl _, Nat.le_refl _, Nat.le_refl _, rfl, HB0.out, ST.out, fun R h1 h2 => ⟨h1, h2⟩⟩
  case round =>
   obtain ⟨a', b', lim, wb, wp, dk, rfl, rfl, rfl, rfl, rfl, hab', hb', hk, hkN, hlim, hds, hBel, hS, hK⟩ := hrel; have hbl : blk < wr.heap.size := Nat.lt_of_lt_of_le hblk hS.size; have hh := hS.holds HH.out hds hblk; have hb2 : b' ≤ dk.size := zk6
   have sz2 : dk.size < 4611686018427387904 := zk6
   have K := Lib.hid hK; have BE := Lib.hid hBel; have HS := Lib.hid hS; clear hK hBel hS; by_cases h12 : b' - a' ≤ 12
   ·have h12z : (b' : Int) - (a' : Int) ≤ 12 := by omega
    have hc := insertionSort_u blk off len cap a' b' dk zk6 wr hh hab' hb2 sz2; obtain ⟨hp, hso⟩ := insertionSort_holds swo_ltInt dk a' b' hab' hb2; have HP := Lib.hid hp; have HO := Lib.hid hso; clear hp hso hh; (go_wp2_with (go_at_call 118; refine hc.mono ?_; rintro e w1 ⟨rfl, hw1⟩; clear hc))
    (try simp only [Exit.inBlock, Exit.then]); refine bodyPost_ret (results_none rfl _ _ _) rfl ?_
    obtain ⟨n1, rfl⟩ := hw1; exact ⟨rfl, _, K.out _ HP.out HO.out, HS.out.put _ HP.out.1 _⟩
   ·have h12z : ¬ ((b' : Int) - (a' : Int) ≤ 12) := by omega
    by_cases hl0 : lim = 0
    ·subst hl0; have hc := heapSort_u blk off len cap a' b' dk zk6 wr hh hab' hb2 sz2; obtain ⟨hp, hso⟩ := heapSort_holds swo_ltInt dk a' b' hab' hb2; have HP := Lib.hid hp; have HO := Lib.hid hso; clear hp hso hh; (go_wp2_with (go_at_call 119; refine hc.mono ?_; rintro e w1 ⟨rfl, hw1⟩; clear hc)); (try simp only [Exit.inBlock, Exit.then]); refine bodyPost_ret (results_none rfl _ _ _) rfl ?_; obtain ⟨n1, rfl⟩ := hw1; exact ⟨rfl, _, K.out _ HP.out HO.out, HS.out.put _ HP.out.1 _⟩
    ·have hl0z : ¬ ((lim : Int) = 0) := by omega
     have h12n : a' < b' := zk6
     go_upto_if 35 with fail
     go_cut [3] (fun s3 wc => ∃ (l1 : Nat) (d1 : Array Int), s3 = .int .i64 l1 ∧ l1 ≤ lim ∧ PermIn a' b' dk d1 ∧ SU w wc blk off d1)
     case first =>
      cases wb
      ·have hc := breakPatterns_u blk off len cap a' b' dk zk6 wr hh hbl hab' hb2 sz2
       clear hh; (go_wp2_with (go_at_call 120; refine hc.mono ?_; rintro e w1 ⟨rfl, hw1⟩; clear hc)); go_meet
       case rel => obtain ⟨d1, hp1, hs1⟩ := hw1; exact ⟨lim - 1, d1, zk179, zk6, hp1, HS.out.trans hs1 hp1.1⟩
      ·clear hh
       go_wp2_with fail
       go_meet
       case rel => exact ⟨lim, dk, rfl, Nat.le_refl _, permIn_refl _ _ _, HS.out⟩
     case rest =>
      obtain ⟨l1, d1, rfl, hl1, hp1, hs1⟩ := hcut; have z1 : d1.size = d.size := hp1.1.trans hds; have hh1 := hs1.holds HH.out z1 hblk; have hbl1 : blk < wc.heap.size := Nat.lt_of_lt_of_le hblk hs1.size; have hc := choosePivot_u blk off len cap a' b' d1 zk6 wc hh1 hbl1 h12n zk6 zk6; have HP1 := Lib.hid hp1; have HS1 := Lib.hid hs1; clear hp1 hs1 hh hh1 hbl; go_upto_if 50 with (go_at_call 121; refine hc.mono ?_; rintro e w2 ⟨p, hint, rfl, hpa, hpb, hhi, hw2⟩; clear hc)
      have hs2 := HS1.out.then hw2; have hh2 := hs2.holds HH.out z1 hblk; have HS2 := Lib.hid hs2; clear hw2 hs2; go_cut [11, 12] (fun s11 s12 wc => ∃ (p2 h2 : Nat) (d2 : Array Int), s11 = .int .i64 p2 ∧ s12 = .int .i64 h2 ∧ a' ≤ p2 ∧ p2 < b' ∧ PermIn a' b' dk d2 ∧ SU w wc blk off d2)
      case first =>
       by_cases hh3 : hint = 2
       ·subst hh3
        have hc := reverseRange_u blk off len cap a' b' d1 zk6 w2 hh2 h12n zk6 zk6; have HR := Lib.hid (reverseRange_holds d1 a' b' hab' zk6); clear hh2; (go_wp2_with (go_at_call 122; refine hc.mono ?_; rintro e w3 ⟨rfl, hw3⟩; clear hc)); go_meet
        case rel => obtain ⟨n3, rfl⟩ := hw3; exact ⟨b' - 1 - (p - a'), 1, _, zk179, rfl, zk6, zk6, permIn_trans _ _ _ _ _ HP1.out HR.out, HS2.out.put _ HR.out.1 _⟩
       ·have hh3z : ¬ ((hint : Int) = 2) := by omega
        clear hh2; (go_wp2_with fail); go_meet
        case rel => exact ⟨p, hint, d1, rfl, rfl, hpa, hpb, HP1.out, HS2.out⟩
      case rest =>
       obtain ⟨p2, h2, d2, rfl, rfl, hpa2, hpb2, hp2, hs2⟩ := hcut; have z2 : d2.size = d.size := hp2.1.trans hds; have hh4 := hs2.holds HH.out z2 hblk; have HP2 := Lib.hid hp2; have HS3 := Lib.hid hs2; clear hp2 hs2 hh2; go_upto_region 15 with fail
       go_cut [12, 68] (fun s12 s68 wx => s12 = .int .i64 h2 ∧ (∃ c : Bool, s68 = .bool c) ∧ wx = wc)
       case first =>
        by_cases h21 : h2 = 1
        ·subst h21
         cases wb <;> cases wp <;> (go_wp2_with fail; go_meet; exact ⟨rfl, ⟨_, rfl⟩, rfl⟩)
        ·have h21z : ¬ ((h2 : Int) = 1) := by omega
         cases wb <;> cases wp <;> (go_wp2_with fail; go_meet; exact ⟨rfl, ⟨_, rfl⟩, rfl⟩)
       case rest =>
        obtain ⟨rfl, ⟨c, rfl⟩, rfl⟩ := hcut; go_upto_if 68 with fail
        go_cut [] (fun wx => ∃ d3 : Array Int, PermIn a' b' dk d3 ∧ SU w wx blk off d3)
        case first =>
         cases c
         ·clear hh4
          go_wp2_with fail
          go_meet
          case rel => exact ⟨d2, HP2.out, HS3.out⟩
         ·have hpp := partialInsertionSort_holds swo_ltInt d2 a' b' h12n zk6 (BE.out.perm hb2 HP2.out)
          have hc := partialIns_u blk off len cap a' b' d2 zk6 wc hh4 h12n zk6 zk6; obtain ⟨pd, pb, hx⟩ : ∃ pd pb, partialInsertionSort ltInt d2 a' b' = (pd, pb) := ⟨_, _, rfl⟩
          rw [hx] at hc hpp; have PP := Lib.hid hpp; clear hx hpp hh4; (go_wp2_with (go_at_call 123; refine hc.mono ?_; rintro e w4 ⟨rfl, hw4⟩; clear hc))
          all_goals first
           | (go_meet
              obtain ⟨n4, rfl⟩ := hw4
              exact ⟨pd, permIn_trans _ _ _ _ _ HP2.out PP.out.1, HS3.out.put _ PP.out.1.1 _⟩)
           | ((try simp only [Exit.inBlock, Exit.then]); refine bodyPost_ret (results_none rfl _ _ _) rfl ?_
              obtain ⟨n4, rfl⟩ := hw4
              exact ⟨rfl, pd, K.out _ (permIn_trans _ _ _ _ _ HP2.out PP.out.1) (PP.out.2 (by assumption)), HS3.out.put _ PP.out.1.1 _⟩)
        case rest =>
         obtain ⟨d3, hp3, hs3⟩ := hcut; have z3 : d3.size = d.size := hp3.1.trans hds; have hh5 := hs3.holds HH.out z3 hblk; obtain ⟨G, hG, hcw, hfw⟩ := famU hh5 rfl (selfU hh5); rw [z3] at hcw hfw; have HP3 := Lib.hid hp3; have HS4 := Lib.hid hs3; have HH5 := Lib.hid hh5; have HG := Lib.hid hG; clear hp3 hs3 hh4 hh5 hG; go_upto_region 17 with fail
         go_cut [87] (fun s87 wx => ∃ c : Bool, s87 = .bool c ∧ (c = true → 0 < a' ∧ ltInt d3[a' - 1]! d3[p2]! = false) ∧ SU w wx blk off d3)
         case first =>
          rcases Nat.eq_zero_or_pos a' with ha0 | ha0
          ·have ha0z : decide ((a' : Int) > 0) = false := decide_eq_false zk6
           go_big_quiet (first | (go_at_call 124; refine Calls.quiet_of_same (less_u _ _ _)))
           go_wp2_with fail
           go_meet
           case rel => exact ⟨_, rfl, fun h => (nomatch h), HS4.out.draws _⟩
          ·have ha0z : (a' : Int) > 0 := by omega
           go_big_quiet (first | (go_at_call 124; refine Calls.quiet_of_same (less_u _ _ _)))
           go_wp2_with fail
           go_meet
           case rel => exact ⟨_, rfl, fun h => ⟨ha0, by rw [← HG.out, ← HG.out]; simpa using h⟩, HS4.out.draws _⟩
         case rest =>
          obtain ⟨c, rfl, hcn, hs4⟩ := hcut; have hh6 := hs4.holds HH.out z3 hblk; have B3 := BE.out.perm hb2 HP3.out; have HS5 := Lib.hid hs4; have CN := Lib.hid hcn; clear hcw hfw hs4 hcn; cases c
          ·obtain ⟨mid, ap, d4, hx⟩ : ∃ mid ap d4, partition ltInt d3 a' b' p2 = (mid, ap, d4) := ⟨_, _, _, rfl⟩
           obtain ⟨r1, r2, r3, r4, r5, r6, r7⟩ := round_part swo_ltInt (partition_holds _) hpa2 hpb2 zk6 B3 hx; have hc := partition_u blk off len cap a' b' p2 d3 zk6 wc hh6 hpa2 hpb2 zk6 zk6; rw [hx] at hc; have R4 := Lib.hid r4; have R5 := Lib.hid r5; have R6 := Lib.hid r6; have R7 := Lib.hid r7; have R3 := Lib.hid r3; have B4 := Lib.hid B3; clear hx hh6 r4 r5 r6 r7 r3 B3; go_upto_if 113 with (go_at_call 126; refine hc.mono ?_; rintro e w7 ⟨rfl, hw7⟩; clear hc)
           have hs7 : SU w w7 blk off d4 := by obtain ⟨n7, rfl⟩ := hw7; exact HS5.out.put _ R3.out _
           have z4 : d4.size = d.size := R3.out.trans z3; have hh7 := hs7.holds HH.out z4 hblk; have hbl7 : blk < w7.heap.size := Nat.lt_of_lt_of_le hblk hs7.size; have HS7 := Lib.hid hs7; clear hw7 hs7; by_cases h4 : mid - a' < b' - mid
           ·have h4z : (mid : Int) - (a' : Int) < (b' : Int) - (mid : Int) := by omega
            have hc := IH.out blk off len cap a' mid l1 d4 zk6 w7 zk6 hh7 hbl7 zk6 zk6 zk6 zk6 R4.out; clear hh7; (go_wp2_with (go_at_call 106; refine hc.mono ?_; rintro e w8 ⟨rfl, hw8⟩; clear hc)); go_roundg (b' - (mid + 1))
            case measure => omega
            case rel =>
             obtain ⟨d5, ⟨pL, sL⟩, hs8⟩ := hw8; obtain ⟨BL, hfin⟩ := R6.out d5 pL sL
             exact ⟨mid + 1, b', l1, _, ap, d5, by first | rfl | (congr 1 <;> omega), rfl, rfl, rfl, rfl, zk6, zk6, Nat.le_refl _, zk6, zk6, by rw [pL.1, z4], BL, HS7.out.trans hs8 pL.1,
              fun R h1 h2 => K.out R (permIn_trans _ _ _ _ _ HP3.out (hfin R h1 h2).1) (hfin R h1 h2).2⟩
           ·have h4z : ¬ ((mid : Int) - (a' : Int) < (b' : Int) - (mid : Int)) := by omega
            have hc := IH.out blk off len cap (mid + 1) b' l1 d4 zk6 w7 zk6 hh7 hbl7 zk6 zk6 zk6 zk6 R5.out; clear hh7; (go_wp2_with (go_at_call 106; refine hc.mono ?_; rintro e w8 ⟨rfl, hw8⟩; clear hc)); go_roundg (mid - a')
            case measure => omega
            case rel =>
             obtain ⟨d5, ⟨pL, sL⟩, hs8⟩ := hw8; obtain ⟨BL, hfin⟩ := R7.out d5 pL sL
             exact ⟨a', mid, l1, _, ap, d5, rfl, rfl, rfl, rfl, rfl, zk6, zk6, Nat.le_refl _, zk6, zk6, by rw [pL.1, z4], BL, HS7.out.trans hs8 pL.1,
              fun R h1 h2 => K.out R (permIn_trans _ _ _ _ _ HP3.out (hfin R h1 h2).1) (hfin R h1 h2).2⟩
          ·obtain ⟨mid, d4, hx⟩ : ∃ mid d4, partitionEqual ltInt d3 a' b' p2 = (mid, d4) := ⟨_, _, rfl⟩
           obtain ⟨ha0, hnl⟩ := CN.out rfl; obtain ⟨r1, r2, r3, r4, r5⟩ := round_eq swo_ltInt (partitionEqual_holds _) ha0 hpa2 hpb2 zk6 B3 hnl hx; have hc := partitionEqual_u blk off len cap a' b' p2 d3 zk6 wc hh6 hpa2 hpb2 zk6 zk6; rw [hx] at hc; have R4 := Lib.hid r4; have R5 := Lib.hid r5; have R3 := Lib.hid r3; clear hx hh6 r4 r5 r3 B3 hnl; (go_wp2_with (go_at_call 125; refine hc.mono ?_; rintro e w7 ⟨rfl, hw7⟩; clear hc)); go_roundg (b' - mid)
           case measure => omega
           case rel =>
            obtain ⟨n7, rfl⟩ := hw7
            exact ⟨mid, b', l1, wb, wp, d4, rfl, rfl, rfl, rfl, rfl, r2, hb', Nat.le_refl _, zk6, zk6, by rw [R3.out]; exact z3, R4.out, HS5.out.put _ R3.out _,
             fun R h1 h2 => K.out R (permIn_trans _ _ _ _ _ HP3.out (R5.out R h1 h2).1) (R5.out R h1 h2).2⟩
end Go.Proofs.Ytplgffbfepnihaa
namespace Go.Proofs.Ytplgffbfepnihaa
open Go.RowKit Go.Sort Go.Proofs Go.Proofs.YtplgffbfepnihaaW.PrintWords
theorem sort_u (blk off len cap : Nat) (d : Array Int) (hlen : d.size = len) (w : World) (hH : Holds (Value.int .u64) w blk off d) (hblk : blk < w.heap.size) (hsz : d.size < 4611686018427387904) :
  Calls Try.prog 84 #[.slice (some ⟨blk, off, none⟩) len cap] w fun e w' =>
   e = .returned (.tuple #[]) ∧ ∃ d', (PermIn 0 len d d' ∧ SortedIn ltInt 0 len d') ∧ SU w w' blk off d' := by
 have C := Try.bits_Len len w zk6 zk6; rw [Int.toNat_natCast, bitLen_eq _ zk6] at C; have hk : bitsLen len ≤ 62 := (bitsLen_le_iff len 62).2 zk6; have wr : IntKind.u64.wrap (len : Int) = len := zk144
 have hc := fun lim (h : lim < 4611686018427387904) => pdqsort_u (len - 0 + 1) blk off len cap 0 len lim d hlen w zk6 hH hblk zk6 zk6 zk6 h (Or.inl rfl); have hc2 := hc (bitsLen len) zk6; obtain ⟨B, hB⟩ : ∃ B, bitsLen len = B := ⟨_, rfl⟩
 rw [hB] at C hc2 hk; have WR := Lib.hid wr; clear hc hB wr hH; go_enter Try.func84, Try.ntmps84; (go_wp2_with (first | (go_at_call 107; first | (refine C.mono ?_; rintro e w' ⟨rfl, rfl⟩; clear C) | (rw [WR.out]; refine C.mono ?_; rintro e w' ⟨rfl, rfl⟩; clear C)) | (go_at_call 106; refine hc2.mono ?_; rintro e w' ⟨rfl, hw⟩; clear hc2))); go_end0
 exact ⟨rfl, hw⟩
end Go.Proofs.Ytplgffbfepnihaa
namespace Go.Proofs.Ytplgffbfepnihaa
open Go.RowKit Go.Maps Go.Proofs.YtplgffbfepnihaaW.PrintWords Go.Proofs.Ytplgffbfepnihaa.Pure
abbrev KD := DataW Unit
def kone : KD := .lit (.int .i64 1)
theorem law41 : Keyed Try.prog 41 := int_keyed Try.underlying41
structure MapIs (D : KD) (S : List Int) : Prop where
 key : ∀ x, D.atKey (.int .u64 x) (.lit (.int .i64 0)) = .lit (.int .i64 (if x ∈ S then 1 else 0))
 has : ∀ x, Maps.has D (.int .u64 x) = decide (x ∈ S)
 size : Maps.size D = S.length
theorem MapIs.nil : MapIs (.map []) [] := ⟨fun x => rfl, fun x => rfl, rfl⟩
theorem MapIs.put {D : KD} {S S' : List Int} {x : Int} (h : MapIs D S) (ht : Tidy D) (hx : x ∉ S) (hm : ∀ y, y ∈ S' ↔ y = x ∨ y ∈ S) (hl : S'.length = S.length + 1) : MapIs (D.put (.int .u64 x) kone) S' := by
 refine ⟨fun y => ?_, fun y => ?_, ?_⟩
 ·by_cases e : y = x
  ·subst e; rw [atKey_put_same (k := .int .u64 y) ht.isMap trivial, if_pos ((hm _).2 (.inl rfl))]; rfl
  ·rw [atKey_put_other zk194, h.key]
   by_cases hy : y ∈ S
   ·rw [if_pos hy, if_pos ((hm _).2 (.inr hy))]
   ·rw [if_neg hy, if_neg (fun c => by rcases (hm _).1 c with c | c <;> contradiction)]
 ·by_cases e : y = x
  ·subst e; rw [has_put_same (k := .int .u64 y) ht.isMap trivial, decide_eq_true ((hm _).2 (.inl rfl))]
  ·rw [has_put_other zk194, h.has]; exact decide_eq_decide.2 ⟨fun c => (hm _).2 (.inr c), fun c => ((hm _).1 c).resolve_left e⟩
 ·rw [size_put ht, h.has, decide_eq_false hx, if_neg zk56, h.size, hl]
theorem MapIs.del {D : KD} {S S' : List Int} {x : Int} (h : MapIs D S) (ht : Tidy D) (hx : x ∈ S) (hm : ∀ y, y ∈ S' ↔ y ∈ S ∧ y ≠ x) (hl : S.length = S'.length + 1) : MapIs (D.del (.int .u64 x)) S' := by
 refine ⟨fun y => ?_, fun y => ?_, ?_⟩
 ·by_cases e : y = x
  ·subst e; rw [atKey_del_same, if_neg (fun c => ((hm _).1 c).2 rfl)]
  ·rw [atKey_del_other zk194, h.key]
   by_cases hy : y ∈ S
   ·rw [if_pos hy, if_pos ((hm _).2 ⟨hy, e⟩)]
   ·rw [if_neg hy, if_neg (fun c => hy ((hm _).1 c).1)]
 ·by_cases e : y = x
  ·subst e; rw [has_del_same, decide_eq_false (fun c => ((hm _).1 c).2 rfl)]
  ·rw [has_del_other zk194, h.has]; exact decide_eq_decide.2 ⟨fun c => (hm _).2 ⟨c, e⟩, fun c => ((hm _).1 c).1⟩
 ·have := size_del (k := .int .u64 x) ht; rw [h.has, decide_eq_true hx, if_pos rfl, h.size] at this; omega
theorem ownsMap_tight {w : World} {b n : Nat} {D : KD} (h : w.ownsMap Try.prog 41 (plainElem Try.prog 3) b n D) : w.ownsMap Try.prog 41 (plainElem Try.prog 3) b (Maps.size D) D := by
 obtain ⟨es, clock, h1, h2, h3, h4⟩ := h; refine ⟨es, clock, h1, h2, ?_, h4⟩; rw [h4]; simp [Maps.size, length_sorted]
def KMap (w : World) (mb : Nat) (S : List Int) : Prop := ∃ D : KD, w.ownsMap Try.prog 41 (plainElem Try.prog 3) mb S.length D ∧ MapIs D S
def KGood (S : List Int) : Prop := Asc S ∧ S.length ≤ 1024 ∧ ∀ x ∈ S, 0 ≤ x ∧ x < 18446744073709551616
structure KM (w : World) (kb mb : Nat) (S : List Int) : Prop where
 ne : kb ≠ mb
 map : KMap w mb S
 good : KGood S
 cells : ∃ top : Int, w.heap[kb]? = some (.cells #[.map (some mb), .int .u64 top] 112 (0, 0)) ∧ (S.length = 1024 → top ∈ S ∧ ∀ x ∈ S, x ≤ top)
theorem KMap.block {w w' : World} {mb : Nat} {S : List Int} (h : KMap w mb S) (he : w'.heap[mb]? = w.heap[mb]?) : KMap w' mb S := by
 obtain ⟨D, ⟨es, clock, h1, h2⟩, h3⟩ := h; exact ⟨D, ⟨es, clock, he.trans h1, h2⟩, h3⟩
theorem KMap.lt {w : World} {mb : Nat} {S : List Int} (h : KMap w mb S) : mb < w.heap.size := by
 obtain ⟨D, h1, _⟩ := h; exact h1.lt
theorem KM.block {w w' : World} {kb mb : Nat} {S : List Int} (h : KM w kb mb S) (h1 : w'.heap[kb]? = w.heap[kb]?) (h2 : w'.heap[mb]? = w.heap[mb]?) : KM w' kb mb S :=
 ⟨h.ne, h.map.block h2, h.good, by obtain ⟨t, e, r⟩ := h.cells; exact ⟨t, h1.trans e, r⟩⟩
theorem below_but {w w' : World} {B r : Nat} (h : w.grownBy w' (some r)) (hr : B ≤ r) (hB : B ≤ w.heap.size) : Below B w w' :=
 Below.grown (Below.refl B w) h hB (fun k e => by cases e; exact hr)
set_option maxHeartbeats 1000000 in
set_option maxRecDepth 100000 in
theorem greatest_u (kb mb : Nat) (top : Int) (S : List Int) (w : World) (hc : w.heap[kb]? = some (.cells #[.map (some mb), .int .u64 top] 112 (0, 0))) (hm : KMap w mb S) (hr : ∀ x ∈ S, 0 ≤ x ∧ x < 18446744073709551616) :
  Calls Try.prog 102 #[.pointer (some ⟨kb, 0, none⟩)] w fun e w' => ∃ m : Int, e = .returned (.int .u64 m) ∧ (∀ x ∈ S, x ≤ m) ∧ (m ∈ S ∨ m = 0) ∧ Below w.heap.size w w' := by
 obtain ⟨D, hown, hD⟩ := hm; have hc0 := blk_cell hc 0; have hk : ∀ x ∈ S, Maps.has D (.int .u64 x) = true := fun x hx => by rw [hD.has]; exact decide_eq_true hx
 have hk2 : ∀ x, Maps.has D (.int .u64 x) = true → x ∈ S := fun x hx => by rw [hD.has] at hx; exact of_decide_eq_true hx
 have HK := Lib.hid hk; have HK2 := Lib.hid hk2; have HR := Lib.hid hr; clear hk hk2 hr hD; go_enter Try.func102, Try.ntmps102; go_wp2; go_step3
 go_wp2; go_step3
 go_wp2_with (first
  | (at_range; refine wpList_range_own _ rfl _ 110 rfl 41 3 law41 Try.underlying110 _ mb _ _ rfl hown ?_; intro w0 hrg0 hg0 hs0)
  | go_in)
 (try go_frame)
 go_loopw [3] (fun s3 wr => ∃ (left : Lit → Bool) (cnt : Nat) (m : Int), s3 = .int .u64 m ∧ wr.ranges Try.prog 41 (plainElem Try.prog 3) mb w.heap.size S.length D left cnt ∧ Below w.heap.size w wr ∧
   (∀ x ∈ S, left (.int .u64 x) = true ∨ x ≤ m) ∧ (∀ x, left (.int .u64 x) = true → x ∈ S) ∧ (m ∈ S ∨ m = 0))
  (fun _ wr => wr.rangeLeft mb w.heap.size)
 case atStart => exact ⟨_, _, 0, rfl, hrg0, Below.grown (Below.refl _ w) hg0 (Nat.le_refl _) (fun k e => by cases e), fun x hx => .inl (HK.out x hx), HK2.out, .inr rfl⟩
 case round =>
  obtain ⟨left, cnt, m, rfl, hrg, hb, hi1, hi2, hi3⟩ := hrel; have I1 := Lib.hid hi1; have I2 := Lib.hid hi2; have I3 := Lib.hid hi3; clear hi1 hi2 hi3
  go_wp2_with (first
   | (at_next; refine wpList_next_ranges_ii _ rfl _ rfl 41 3 .u64 .i64 law41 Try.underlying41 Try.underlying3 mb w.heap.size _ _ _ _ rfl hrg ?_ ?_)
   | go_in)
  ·intro _ hl0
   go_wp2; (try rw [Exit.noGoto_ret]); go_ret
   exact ⟨m, rfl, fun x hx => (I1.out x hx).resolve_left (by rw [hl0]; simp), I3.out, hb⟩
  ·intro x c w1 cnt1 hwx hwc hlx hat hrg1 hlt hg1 hs1 hen
   have hb1 : Below w.heap.size w w1 := hb.trans (below_but hg1 (Nat.le_refl _) hb.size); have hxS := I2.out x hlx; have hx0 := (HR.out x hxS).1; clear hat hwc hwx; go_wp2
   ·have hle : x ≤ m := by first | assumption | omega
    go_roundw
    case rel => exact ⟨_, cnt1, m, rfl, hrg1, hb1, fun y hy => (I1.out y hy).elim (fun h => if e : y = x then .inr zk6 else .inl (by simp [h, Lit.sameKey]; exact fun c => e c)) .inr, fun y hy => I2.out y (by simp at hy; exact hy.1), I3.out⟩
    case measure => rw [hrg1.left_eq, hrg.left_eq]; omega
   ·have hle : ¬ x ≤ m := by first | assumption | omega
    go_roundw
    case rel => exact ⟨_, cnt1, x, rfl, hrg1, hb1, fun y hy => (I1.out y hy).elim (fun h => if e : y = x then .inr zk6 else .inl (by simp [h, Lit.sameKey]; exact fun c => e c)) (fun h => .inr zk6), fun y hy => I2.out y (by simp at hy; exact hy.1), .inl hxS⟩
    case measure => rw [hrg1.left_eq, hrg.left_eq]; omega
end Go.Proofs.Ytplgffbfepnihaa
namespace Go.Proofs.Ytplgffbfepnihaa
open Go.RowKit Go.Sort Go.Proofs.YtplgffbfepnihaaW.PrintWords Go.Proofs.Ytplgffbfepnihaa.Pure
theorem insertionSort_nil (w : World) : Calls Try.prog 118 #[.slice none 0 0, .int .i64 0, .int .i64 0] w fun e w' => e = .returned (.tuple #[]) ∧ w' = w := by
 go_enter Try.func118, Try.ntmps118; go_wp2; go_loopw [6] (fun vi wr => vi = .int .i64 1 ∧ wr = w) (fun _ _ => 0)
 case atStart => exact ⟨rfl, rfl⟩
 case round =>
  obtain ⟨rfl, rfl⟩ := hrel; go_wp2; go_end0
  exact zk247
theorem pdqsort_nil (w : World) (lim : Nat) : Calls Try.prog 106 #[.slice none 0 0, .int .i64 0, .int .i64 0, .int .i64 lim] w fun e w' => e = .returned (.tuple #[]) ∧ w' = w := by
 have C := insertionSort_nil w; go_enter Try.func106, Try.ntmps106; go_wp2; go_loopw [1, 2] (fun va vb wr => va = .int .i64 0 ∧ vb = .int .i64 0 ∧ wr = w) (fun _ _ _ => 0)
 case atStart => exact ⟨rfl, rfl, rfl⟩
 case round => obtain ⟨rfl, rfl, rfl⟩ := hrel; (go_wp2_with (go_at_call 118; refine C.mono ?_; rintro e w1 ⟨rfl, rfl⟩)); (try simp only [Exit.inBlock, Exit.then]); refine bodyPost_ret (results_none rfl _ _ _) rfl ?_; exact ⟨rfl, rfl⟩
theorem sort_nil (w : World) : Calls Try.prog 84 #[.slice none 0 0] w fun e w' => e = .returned (.tuple #[]) ∧ w' = w := by
 have C := Try.bits_Len 0 w zk6 zk6; have C2 := pdqsort_nil w (Lib.bitLen (Int.toNat 0)); go_enter Try.func84, Try.ntmps84; (go_wp2_with (first | (go_at_call 107; refine C.mono ?_; rintro e w' ⟨rfl, rfl⟩; clear C) | (go_at_call 106; refine C2.mono ?_; rintro e w' ⟨rfl, rfl⟩; clear C2))); go_end0
 exact zk247
theorem sort_own {w : World} {base : Nat} {v : Value} {l : List Int} (ho : w.ownsRow base 41 1 v l.length (nums .u64 l)) (hl : l.length < 4611686018427387904) :
  Calls Try.prog 84 #[v] w fun e w' => e = .returned (.tuple #[]) ∧ ∃ l' : List Int, l'.Perm l ∧ l'.Pairwise (fun a b => a ≤ b) ∧ w'.ownsRow base 41 1 v l'.length (nums .u64 l') ∧ Below base w w' := by
 rcases ho.2 with ⟨rfl, h0⟩ | ⟨g, cap, cur, rfl, hbg, hg, hnc, hcm, hcs, htake⟩
 ·have hn : l = [] := List.eq_nil_of_length_eq_zero h0
  subst hn; exact (sort_nil w).mono fun e w' ⟨he, hw⟩ => ⟨he, [], List.Perm.refl _, List.Pairwise.nil, by rw [hw]; exact ho, by rw [hw]; exact Below.refl _ _⟩
 ·have hH : Holds (Value.int .u64) w g 0 l.toArray := by
   intro j hj; have hj' : j < l.length := by simpa using hj
   have hc : cur.toList[j]? = some (Value.int .u64 (l.toArray[j]!)) := by
    have e : (nums .u64 l)[j]? = some (Value.int .u64 (l.toArray[j]!)) := by
     unfold nums; rw [List.getElem?_map, List.getElem?_eq_getElem hj']; simp [getElem!_pos, hj']
    rw [← htake] at e; rw [List.getElem?_take] at e; split at e
    ·exact e
    ·cases e
   refine ⟨?_, ?_⟩
   ·have := blk_cell hg (0 + j); rw [this]; simpa using hc
   ·exact blk_frozen hg (0 + j)
  refine (sort_u g 0 l.length cap l.toArray zk56 w hH (by have := Array.getElem?_eq_some_iff.1 hg; exact this.1) (by simpa using hl)).mono ?_; rintro e w' ⟨rfl, d', ⟨hp, hs⟩, hu⟩; have e1 : d'.size = l.length := by rw [hp.1]; simp
  have hgs : g < w.heap.size := (Array.getElem?_eq_some_iff.1 hg).1
  have hw : w'.heap[g]? = some (.cells (putCells (Value.int .u64) 0 d' cur) 41 (0, 0)) := by
   rw [hu.block g hgs]; unfold putRow mapBlock; simp only [Array.getElem?_modify, if_true, hg, Option.map_some, onCells]
  refine ⟨rfl, d'.toList, ?_, ?_, ⟨?_, .inr ⟨g, cap, _, ?_, hbg, hw, ?_, hcm, ?_, ?_⟩⟩, ⟨hu.os, hu.tape, hu.output, hu.size, fun k hk => ?_⟩⟩
  ·have := hp.2.2; have e2 : List.take d'.size l = l := List.take_of_length_le zk6; simpa [← e1, e2] using this
  ·rw [List.pairwise_iff_getElem]
   intro i j hi hj hij; have hj' : j < d'.size := by simpa using hj
   have := hs i j (Nat.zero_le _) hij zk6; rw [getElem!_pos d' j hj', getElem!_pos d' i zk6] at this; simp only [ltInt, decide_eq_false_iff_not, Array.getElem_toList] at this ⊢; omega
  ·simp [nums]
  ·congr 1; simp [e1]
  ·simpa [e1] using hnc
  ·unfold putCells; simpa using hcs
  ·unfold putCells nums
   apply List.ext_getElem?; intro i; rw [List.getElem?_take]; by_cases hi : i < l.length
   ·have hic : i < cur.size := by omega
    have hid : i < d'.size := zk6
    rw [if_pos (by simpa [e1] using hi)]; simp [hic, hid, getElem!_pos d' i hid]
   ·rw [if_neg (by simpa [e1] using hi), List.getElem?_eq_none (by simp [e1]; omega)]
  ·rw [hu.block k zk6]; exact putRow_heap _ _ _ _ _ zk6
end Go.Proofs.Ytplgffbfepnihaa
namespace Go.Proofs.Ytplgffbfepnihaa
open Go.RowKit Go.Maps Go.Proofs.YtplgffbfepnihaaW.PrintWords Go.Proofs.Ytplgffbfepnihaa.Pure
theorem info41 : (Try.prog.info? 41).map (fun i => (i.zero, i.size, i.bytes)) = some (some (.int .u64 0), 1, 8) := by kernel_rfl
theorem asc_of_sorted {l : List Int} (h : l.Pairwise (fun a b => a ≤ b)) (hn : l.Nodup) : Asc l := by
 have := List.pairwise_and_iff.2 ⟨h, hn⟩; exact this.imp (fun ⟨a, b⟩ => by have : _ ≠ _ := b; omega)
set_option maxHeartbeats 1000000 in
set_option maxRecDepth 100000 in
theorem hashes_u (kb mb : Nat) (S : List Int) (w : World) (h : KM w kb mb S) :
  Calls Try.prog 56 #[.pointer (some ⟨kb, 0, none⟩)] w fun e w' => ∃ v, e = .returned v ∧ w'.ownsRow w.heap.size 41 1 v S.length (nums .u64 S) ∧ Below w.heap.size w w' := by
 obtain ⟨_, ⟨D, hown, hD⟩, ⟨hA, hL, hr⟩, top, hc, _⟩ := h; have hc0 := blk_cell hc 0; have hk : ∀ x, Maps.has D (.int .u64 x) = true ↔ x ∈ S := fun x => by rw [hD.has]; exact decide_eq_true_iff
 have HK := Lib.hid hk; have HA := Lib.hid hA; clear hk hD hA hr; go_enter Try.func56, Try.ntmps56
 go_wp2_with (first
  | (at_range; refine wpList_range_own _ rfl _ 110 rfl 41 3 law41 Try.underlying110 _ mb _ _ rfl hown ?_; intro w0 hrg0 hg0 hs0)
  | go_in)
 go_frame
 go_loopw [3] (fun s3 wr => ∃ (left : Lit → Bool) (cnt : Nat) (l : List Int), wr.ranges Try.prog 41 (plainElem Try.prog 3) mb w.heap.size S.length D left cnt ∧ Below w.heap.size w wr ∧
   (Kd.int .u64).R 41 wr w.heap.size (fun k => k ≠ w.heap.size) s3 l ∧ l.Nodup ∧ (∀ x, left (.int .u64 x) = true → x ∈ S) ∧ (∀ x, x ∈ l ↔ x ∈ S ∧ left (.int .u64 x) = false))
  (fun _ wr => wr.rangeLeft mb w.heap.size)
 case atStart => exact ⟨_, _, [], hrg0, Below.grown (Below.refl _ w) hg0 (Nat.le_refl _) (fun k e => by cases e), Kd.R_nil _ _ _ _ _, List.nodup_nil, fun x hx => (HK.out x).1 hx, fun x => ⟨fun c => by simp at c, fun ⟨c1, c2⟩ => by rw [(HK.out x).2 c1] at c2; cases c2⟩⟩
 case round =>
  obtain ⟨left, cnt, l, hrg, hb, hl, hnd, hi1, hi2⟩ := hrel; have I1 := Lib.hid hi1; have I2 := Lib.hid hi2; have ND := Lib.hid hnd; clear hi1 hi2 hnd
  go_wp2_with (first
   | (at_next; refine wpList_next_ranges_ii _ rfl _ rfl 41 3 .u64 .i64 law41 Try.underlying41 Try.underlying3 mb w.heap.size _ _ _ _ rfl hrg ?_ ?_)
   | go_in)
  ·intro _ hl0
   have hm : ∀ x, x ∈ l ↔ x ∈ S := fun x => by rw [I2.out x, hl0]; simp
   have hlen : l.length ≤ S.length := nodup_le ND.out (fun x hx => (hm x).1 hx); have C := sort_own (Kd.own_of_R hl) zk6; have HM := Lib.hid hm; have HB := Lib.hid hb; clear hm hl0 hl; (go_wp2_with (go_at_call 84; refine C.mono ?_; rintro e w1 ⟨rfl, l', hp, hs, ho, hb1⟩; clear C)); go_ret
   have e : l' = S := asc_ext (asc_of_sorted hs (hp.nodup_iff.2 ND.out)) HA.out (fun x => by rw [hp.mem_iff, HM.out]); exact ⟨_, rfl, by rw [← e]; exact ho, HB.out.trans hb1⟩
  ·intro x c w1 cnt1 hwx hwc hlx hat hrg1 hlt hg1 hs1 hen
   have hb1 : Below w.heap.size w w1 := hb.trans (below_but hg1 (Nat.le_refl _) hb.size); have hl1 : (Kd.int .u64).R 41 w1 w.heap.size (fun k => k ≠ w.heap.size) u3 l := Kd.R_grown hl hg1 (fun k hk c => hk (by simpa using c)); have hxS := I1.out x hlx; have hxl : x ∉ l := fun c => by have := ((I2.out x).1 c).2; rw [hlx] at this; cases this
   have hll : l.length ≤ S.length := nodup_le ND.out (fun y hy => ((I2.out y).1 hy).1); have hrl := hrg1.lt; have hmb := hown.lt; have HX := Lib.hid hxl; have HXS := Lib.hid hxS; have HB := Lib.hid hb1; have HLX := Lib.hid hlx; have HRG := Lib.hid hrg1; have HBS := Kd.R_base hl1; have HOK := hl1.1; have HBS := Lib.hid HBS; have HOK := Lib.hid HOK; clear hat hwc hwx hxl hb hb1 hl hlx hrg1 hxS hs1; (go_wp2_with ((with_reducible refine gate_builtin (b := .append) (xs := #[.tmp 17, .tmp 19]) rfl ?_); at_builtin; refine Kd.R_append (Kd.int .u64) (w0 := w) (W := w1) w.heap.size rfl (.tmp 17) (.tmp 19) 40 41 (.int .u64 0) 8 rfl Try.underlying40 info41 rfl zk47 zk6 u3 l x [.int .u64 x] (fun k => k ≠ w.heap.size) (fun _ => False) rfl rfl rfl (fun _ hk => hk.elim) (fun k hk => by omega) hl1 HB.out zk6 zk6 ?_; intro v2 w2 ho2 hb2 hg2 hat2)); go_roundw
   case rel =>
    refine ⟨_, cnt1, l ++ [x], HRG.out.kept hg2 ?_ ?_, hb2, ho2, ?_, ?_, ?_⟩
    ·intro c; have := HBS.out mb c.symm; omega
    ·intro c; exact HOK.out _ c.symm rfl
    ·exact List.nodup_append.2 ⟨ND.out, zk56, fun a ha b hb c => by simp at hb; subst hb; subst c; exact HX.out ha⟩
    ·intro y hy; simp at hy; exact I1.out y hy.1
    ·intro y
     rw [List.mem_append, List.mem_singleton, I2.out y]; by_cases e : y = x
     ·subst e; simp [HXS.out, Lit.sameKey]
     ·simp [e, Lit.sameKey]
   case measure => rw [(HRG.out.kept hg2 (fun c => by have := HBS.out mb c.symm; omega) (fun c => HOK.out _ c.symm rfl)).left_eq, hrg.left_eq]; omega
end Go.Proofs.Ytplgffbfepnihaa
namespace Go.Proofs.Ytplgffbfepnihaa
open Go.RowKit Go.Maps Go.Proofs.YtplgffbfepnihaaW.PrintWords Go.Proofs.Ytplgffbfepnihaa.Pure
theorem kgood_nil : KGood [] := ⟨List.Pairwise.nil, by simp, fun x hx => by simp at hx⟩
theorem new_u (w : World) : Calls Try.prog 52 #[] w fun e w' => ∃ kb mb, e = .returned (.pointer (some ⟨kb, 0, none⟩)) ∧ KM w' kb mb [] ∧ w.heap.size ≤ kb ∧ w.heap.size ≤ mb ∧ Below w.heap.size w w' := by
 have h1 := World.ownsMap_made (H := Unit) w Try.prog 41 (plainElem Try.prog 3); have h2 := h1.alloc (.cells #[.map (some w.heap.size), .int .u64 0] 112)
 have b1 : Below w.heap.size w ((w.alloc (.map #[] 0)).alloc (.cells #[.map (some w.heap.size), .int .u64 0] 112)) :=
  ((Below.refl w.heap.size w).alloc (Nat.le_refl _) (.map #[] 0)).alloc zk56 _
 have n1 := blk_new (w.alloc (.map #[] 0)) (Obj.cells #[.map (some w.heap.size), .int .u64 0] 112); have H2 := Lib.hid h2; have B1 := Lib.hid b1; have N1 := Lib.hid n1; clear h1 h2 b1 n1; have hmk : ∀ w, (Instr.makeMap 110 none).run Try.prog w = .ok (.map (some w.heap.size)) (w.alloc (.map #[] 0)) := fun w => run_makeMap 110 w; go_enter Try.func52, Try.ntmps52; go_wp2; go_ret
 exact ⟨w.heap.size + 1, w.heap.size, zk56, ⟨zk6, ⟨_, H2.out, MapIs.nil⟩, kgood_nil, ⟨0, by simpa using N1.out, zk56⟩⟩, zk6, Nat.le_refl _, B1.out⟩
theorem khash_in {S : List Int} {h : Int} (hA : Asc S) (hl : S.length ≤ 1024) (hm : h ∈ S) : khash S h = S := by
 unfold khash; rw [kins_mem hA hm, List.take_of_length_le hl]
theorem kins_over {h : Int} : ∀ {S : List Int}, (∀ x ∈ S, x < h) → kins h S = S ++ [h] := by
 intro S
 induction S with
 | nil => intro _; rfl
 | cons x r ih =>
  intro hx; have := hx x zk56; rw [kins, if_neg zk6, if_neg zk6, ih (fun y hy => hx y (by simp [hy]))]; rfl
theorem khash_over {S : List Int} {h : Int} (hl : S.length = 1024) (hm : ∀ x ∈ S, x < h) : khash S h = S := by
 unfold khash; rw [kins_over hm, List.take_append_of_le_length zk6, List.take_of_length_le zk6]
theorem khash_new {S : List Int} {h : Int} (hA : Asc S) (hl : S.length < 1024) (hm : h ∉ S) : khash S h = kins h S := by
 unfold khash; rw [List.take_of_length_le (by rw [kins_len hA hm]; omega)]
theorem mem_but_last {L : List Int} {n : Nat} {m : Int} (hA : Asc L) (hl : L.length = n + 1) (hm : m ∈ L) (hx : ∀ x ∈ L, x ≤ m) (y : Int) : y ∈ L.take n ↔ y ∈ L ∧ y ≠ m := by
 rcases List.eq_nil_or_concat L with rfl | ⟨K, z, rfl⟩
 ·simp at hl
 ·simp only [List.concat_eq_append, List.length_append, List.length_cons, List.length_nil] at *
  have hK : K.length = n := zk6
  have hz : ∀ a ∈ K, a < z := fun a ha => (List.pairwise_append.1 hA).2.2 a ha z zk56
  have e : z = m := by
   have h1 := hx z zk56
   rcases List.mem_append.1 hm with c | c
   ·have := hz m c; omega
   ·simp at c; exact c.symm
  rw [List.take_append_of_le_length zk6, List.take_of_length_le zk6, ← e]; simp only [List.mem_append, List.mem_singleton]; exact ⟨fun c => ⟨.inl c, fun c2 => by have := hz y c; omega⟩, fun ⟨c, c2⟩ => c.resolve_right c2⟩
theorem kgood_khash {S : List Int} (hg : KGood S) {h : Int} (h0 : 0 ≤ h ∧ h < 18446744073709551616) : KGood (khash S h) := by
 refine ⟨asc_khash hg.1 h, khash_len S h, fun x hx => ?_⟩
 rcases (mem_kins h S x).1 (List.mem_of_mem_take hx) with c | c
 ·rw [c]; exact h0
 ·exact hg.2.2 x c
def KF (w w' : World) (kb mb : Nat) : Prop := w'.os = w.os ∧ w'.tape = w.tape ∧ w'.output = w.output ∧ w.heap.size ≤ w'.heap.size ∧ ∀ i, i < w.heap.size → i ≠ kb → i ≠ mb → w'.heap[i]? = w.heap[i]?
theorem KF.refl (w : World) (kb mb : Nat) : KF w w kb mb := ⟨rfl, rfl, rfl, Nat.le_refl _, fun _ _ _ _ => rfl⟩
theorem KF.trans {a b c : World} {kb mb : Nat} (h : KF a b kb mb) (k : KF b c kb mb) : KF a c kb mb :=
 ⟨k.1.trans h.1, k.2.1.trans h.2.1, k.2.2.1.trans h.2.2.1, Nat.le_trans h.2.2.2.1 k.2.2.2.1, fun i hi h1 h2 => (k.2.2.2.2 i (Nat.lt_of_lt_of_le hi h.2.2.2.1) h1 h2).trans (h.2.2.2.2 i hi h1 h2)⟩
theorem KF.below {a b : World} {kb mb : Nat} (h : Below a.heap.size a b) : KF a b kb mb := ⟨h.os, h.tape, h.output, h.size, fun i hi _ _ => h.block i hi⟩
theorem KF.grown {a b : World} {kb mb : Nat} (h : a.grownBy b (some mb)) : KF a b kb mb := ⟨h.os, h.tape, h.output, h.size, fun i hi _ h2 => h.block i hi (by simpa using h2)⟩
theorem KF.set {a : World} {kb mb : Nat} (j : Nat) (v : Value) : KF a (a.setCell ⟨kb, j, none⟩ v) kb mb := ⟨rfl, rfl, rfl, by simp, fun i _ h1 _ => Below.heap_setCell a ⟨kb, j, none⟩ v i h1⟩
theorem KM.topped {w : World} {kb mb : Nat} {L : List Int} {t m : Int} (hne : kb ≠ mb) (hm : KMap w mb L) (hg : KGood L) (hc : w.heap[kb]? = some (.cells #[.map (some mb), .int .u64 t] 112 (0, 0))) (hin : m ∈ L) (hx : ∀ x ∈ L, x ≤ m) :
  KM (w.setCell ⟨kb, 1, none⟩ (.int .u64 m)) kb mb L :=
 ⟨hne, hm.block (Below.heap_setCell w ⟨kb, 1, none⟩ _ mb (Ne.symm hne)), hg, ⟨m, blk_set hc 1 (.int .u64 m), fun _ => ⟨hin, hx⟩⟩⟩
theorem greatest_in {L : List Int} {m : Int} (hg : KGood L) (hl : L.length = 1024) (hx : ∀ x ∈ L, x ≤ m) (hin : m ∈ L ∨ m = 0) : m ∈ L := by
 rcases hin with h | h
 ·exact h
 ·cases L with
  | nil => simp at hl
  | cons x r =>
   have h1 := hx x zk56; have h2 := (hg.2.2 x zk56).1; have : x = m := zk6
   rw [← this]; simp
set_option maxHeartbeats 2000000 in
set_option maxRecDepth 100000 in
theorem hash_u (kb mb : Nat) (S : List Int) (h : Int) (h0 : 0 ≤ h ∧ h < 18446744073709551616) (w : World) (hk : KM w kb mb S) :
  Calls Try.prog 80 #[.pointer (some ⟨kb, 0, none⟩), .int .u64 h] w fun e w' => e = .returned (.tuple #[]) ∧ KM w' kb mb (khash S h) ∧ KF w w' kb mb := by
 have hkm := hk; obtain ⟨hne, ⟨D, hown, hD⟩, ⟨hA, hL, hr⟩, top, hc, htop⟩ := hk
 have wfh : (Lit.int .u64 h).wf = true := by
  have e1 : IntKind.u64.min = 0 := zk47
  have e2 : IntKind.u64.max = 18446744073709551615 := zk47
  simp only [Lit.wf, e1, e2, Bool.and_eq_true, decide_eq_true_eq]; omega
 have hc0 := blk_cell hc 0; have hc1 := blk_cell hc 1; obtain ⟨c, hlook, hat, hwc⟩ := hown.lookup_int law41 Try.underlying110 Try.underlying3 zk50 (keyOf_int_mk Try.underlying41 wfh); have hlen := fun ty => hown.len Try.underlying110 ty; rw [hD.size] at hlen; rw [hD.key] at hat; by_cases hm : h ∈ S
 ·rw [if_pos hm] at hat
  obtain rfl : c = 1 := by injection hat with e; injection e with _ e; exact e.symm
  have E := Lib.hid (khash_in hA hL hm); have KK := Lib.hid hkm; clear hat hwc hA hL hr hm hD hown hkm htop; go_enter Try.func80, Try.ntmps80; go_wp2
  (try simp only [Exit.inBlock, Exit.then]); refine bodyPost_ret (results_none rfl _ _ _) rfl ?_
  exact ⟨rfl, by rw [E.out]; exact KK.out, KF.refl _ _ _⟩
 ·rw [if_neg hm] at hat
  obtain rfl : c = 0 := by injection hat with e; injection e with _ e; exact e.symm
  clear hat hwc; have hD1 := hD.put (hown.tidy law41) hm (mem_kins h S) (kins_len hA hm); have hkl := kins_len hA hm; have hval : plainElem (H := Unit) Try.prog 3 (.int .i64 1) = some (kone, []) := plainElem_int Try.underlying3 zk47; have hkb : kb < w.heap.size := (Array.getElem?_eq_some_iff.1 hc).1; have hkey := keyOf_int_mk Try.underlying41 wfh; by_cases h1024 : S.length = 1024
  ·rw [h1024] at hlen
   obtain ⟨ht1, ht2⟩ := htop h1024; by_cases hgt : top < h
   ·have E := Lib.hid (khash_over (h := h) h1024 (fun x hx => by have := ht2 x hx; omega)); have KK := Lib.hid hkm; clear hA hL hr hm hD hown hkm htop hD1 ht2 h1024 hkl hval; go_enter Try.func80, Try.ntmps80; go_wp2; (try simp only [Exit.inBlock, Exit.then]); refine bodyPost_ret (results_none rfl _ _ _) rfl ?_; exact ⟨rfl, by rw [E.out]; exact KK.out, KF.refl _ _ _⟩
   ·have hlt : h < top := by
     have : h ≠ top := fun c => hm (c ▸ ht1); omega
    have hle : ¬ top < h := hgt; have hkl2 : (kins h S).length = 1025 := zk6
    have hin1 : top ∈ kins h S := (mem_kins h S top).2 (.inr ht1)
    have hmax : ∀ x ∈ kins h S, x ≤ top := fun x hx => by rcases (mem_kins h S x).1 hx with c | c; · omega
                                                          ·exact ht2 x c
    have hmem := mem_but_last (asc_kins h hA) hkl2 hin1 hmax; have hgd := kgood_khash hkm.good h0 (h := h); have hlk : (khash S h).length = 1024 := by unfold khash; rw [List.length_take]; omega
    have HGD := Lib.hid hgd; have HMEM := Lib.hid hmem; have HIN1 := Lib.hid hin1; have HLK := Lib.hid hlk; have HD1 := Lib.hid hD1; have HSZ := Lib.hid (hD1.size.trans hkl2); have HL := Lib.hid h1024; have hr2 := hr top ht1; clear hA hL hr hm hD hkm htop hD1 hkl hkl2 hgd hmem hin1 hmax ht1 ht2 hlk h1024 hgt; go_enter Try.func80, Try.ntmps80
    go_upto_if 41 with (first
     | (at_mapUpdate; refine wpList_mapUpdate_own _ rfl _ _ _ 110 rfl 41 3 law41 Try.underlying110 _ mb S.length D rfl hown (by have : maxLen = 9223372036854775807 := rfl; have := HL.out; omega) _ _ (.int .u64 h) rfl rfl hkey kone [] hval ?_; intro w1 hown1 hg1; have hc2 := (hg1.block kb hkb (by simp [hne])).trans hc; have hcc0 := blk_cell hc2 0; have hcc1 := blk_cell hc2 1; have hlen1 := fun ty => hown1.len Try.underlying110 ty; rw [HSZ.out, show ((1025 : Nat) : Int) = 1025 from rfl] at hlen1)
     | go_in)
    have HG1 := Lib.hid hg1; have k1 := (Array.getElem?_eq_some_iff.1 hc2).1; have ht1 := hown1.tidy law41; have own2 := hown1.drew; have hc3 : w1.drew.heap[kb]? = some (.cells #[.map (some mb), .int .u64 top] 112 (0, 0)) := hc2; have kF : KF w1 w1.drew kb mb := KF.below (below_drew (Below.refl _ _)); have TD := Lib.hid ht1; clear hg1 ht1; have hd41 : decide ((1024 : Int) < 1025) = true := zk47
    go_wp2; refine wp_region_still_tail 8 zk11 zk11 ?_; simp only [List.take_succ_cons, List.take_zero, List.drop_succ_cons, List.drop_zero]; change wpStill _ _ w1.drew _ _ _; obtain ⟨W2, hW2⟩ : ∃ W2, w1.drew = W2 := ⟨_, rfl⟩
    rw [hW2] at own2 hc3 kF ⊢; have HW2 := Lib.hid hW2; clear hW2 hcc0 hcc1 hlen1 hlen hc0 hc1 hlook hown hc hown1 hc2; have hcc0 := blk_cell hc3 0; have hcc1 := blk_cell hc3 1; (repeat still_step); refine wpStill_nil ?_; change wpList _ _ _ _ _ w1.drew; rw [HW2.out]
    have wft : (Lit.int .u64 top).wf = true := by
     have e1 : IntKind.u64.min = 0 := zk47
     have e2 : IntKind.u64.max = 18446744073709551615 := zk47
     simp only [Lit.wf, e1, e2, Bool.and_eq_true, decide_eq_true_eq]; omega
    have hkeyt := keyOf_int_mk Try.underlying41 wft; have hD2 : MapIs _ (khash S h) := HD1.out.del TD.out HIN1.out HMEM.out (by have := HSZ.out; rw [HD1.out.size] at this; have := HLK.out; omega); have HD2 := Lib.hid hD2; have kF2 := Lib.hid ((KF.grown (kb := kb) HG1.out).trans kF); have hkb2 := (Array.getElem?_eq_some_iff.1 hc3).1; clear hD2 hcc0 hcc1 kF
    go_wp2_with (first
     | (at_delete; refine wpList_delete_own _ rfl _ _ 110 41 rfl 3 law41 Try.underlying110 _ mb _ _ rfl own2 (.int .u64 top) (.int .u64 top) rfl hkeyt ?_; intro w3 own3 turn3; have hg3 := turn3.grown; have hc4 := (hg3.block kb hkb2 (by simp [hne])).trans hc3; have hcc0 := blk_cell hc4 0; have hcc1 := blk_cell hc4 1; have hlen3 := fun ty => own3.len Try.underlying110 ty; rw [HD2.out.size, HLK.out, show ((1024 : Nat) : Int) = 1024 from rfl] at hlen3; have HG3 := Lib.hid hg3; clear turn3 hg3;
        have hmap3 : KMap w3 mb (khash S h) := ⟨_, by rw [← HD2.out.size]; exact ownsMap_tight own3, HD2.out⟩; have C := greatest_u kb mb top (khash S h) w3 hc4 hmap3 HGD.out.2.2; have HM3 := Lib.hid hmap3; have hmb3 := own3.lt; clear hmap3)
     | (go_at_call 102; refine C.mono ?_; rintro e w4 ⟨m, rfl, hx, hin, hb2⟩; clear C; have hkb1 := (Array.getElem?_eq_some_iff.1 hc4).1; have hc5 := (hb2.block kb hkb1).trans hc4; have hcd0 := blk_cell hc5 0; have hcd1 := blk_cell hc5 1; have hfd := blk_frozen hc5 1; have HIN := Lib.hid hin; have HX := Lib.hid hx; have HB2 := Lib.hid hb2; clear hin hx hb2)
     | go_in)
    go_end0
    exact ⟨rfl, KM.topped hne (HM3.out.block (HB2.out.block mb hmb3)) HGD.out hc5 (greatest_in HGD.out HLK.out HX.out HIN.out) HX.out, ((kF2.out.trans (KF.grown HG3.out)).trans (KF.below HB2.out)).trans (KF.set 1 _)⟩
  ·have hlt : S.length < 1024 := by omega
   have hz1 : decide ((S.length : Int) = 1024) = false := decide_eq_false zk6; have hz2 : decide ((1024 : Int) < ((kins h S).length : Int)) = false := decide_eq_false zk6; have E := Lib.hid (khash_new hA hlt hm); have hgd := kgood_khash hkm.good h0 (h := h); rw [E.out] at hgd; have HGD := Lib.hid hgd; have HD1 := Lib.hid hD1; have HSZ := Lib.hid hD1.size; clear hA hL hr hm hD hkm htop hD1 hkl hgd; go_enter Try.func80, Try.ntmps80
   go_upto_if 41 with (first
    | (at_mapUpdate; refine wpList_mapUpdate_own _ rfl _ _ _ 110 rfl 41 3 law41 Try.underlying110 _ mb S.length D rfl hown (by have : maxLen = 9223372036854775807 := rfl; omega) _ _ (.int .u64 h) rfl rfl hkey kone [] hval ?_; intro w1 hown1 hg1; have hc2 := (hg1.block kb hkb (by simp [hne])).trans hc; have hcc0 := blk_cell hc2 0; have hcc1 := blk_cell hc2 1; have hlen1 := fun ty => hown1.len Try.underlying110 ty; rw [HSZ.out] at hlen1)
    | go_in)
   have hmap1 : KMap w1 mb (kins h S) := ⟨_, by rw [← HD1.out.size]; exact ownsMap_tight hown1, HD1.out⟩
   have HM1 := Lib.hid hmap1; have HG1 := Lib.hid hg1; have hmb1 := hown1.lt; by_cases hq : (kins h S).length = 1024
   ·rw [hq, show ((1024 : Nat) : Int) = 1024 from rfl] at hlen1
    have C := greatest_u kb mb top (kins h S) w1 hc2 hmap1 HGD.out.2.2; have HQ := Lib.hid hq; clear hmap1 hg1 hq; (go_wp2_with (go_at_call 102; refine C.mono ?_; rintro e w2 ⟨m, rfl, hx, hin, hb2⟩; clear C; have hkb1 := (Array.getElem?_eq_some_iff.1 hc2).1; have hc3 := (hb2.block kb hkb1).trans hc2; have hcd0 := blk_cell hc3 0; have hcd1 := blk_cell hc3 1; have hfd := blk_frozen hc3 1; have HIN := Lib.hid hin; have HX := Lib.hid hx; have HB2 := Lib.hid hb2; clear hin hx hb2)); go_end0
    exact ⟨rfl, by rw [E.out]; exact KM.topped hne (HM1.out.block (HB2.out.block mb hmb1)) HGD.out hc3 (greatest_in HGD.out HQ.out HX.out HIN.out) HX.out, ((KF.grown HG1.out).trans (KF.below HB2.out)).trans (KF.set 1 _)⟩
   ·have hz3 : (((kins h S).length : Int) == 1024) = false := beq_eq_false_iff_ne.mpr zk6
    have HQ := Lib.hid hq; clear hmap1 hg1 hq; go_wp2; go_end0
    exact ⟨rfl, by rw [E.out]; exact ⟨hne, HM1.out, HGD.out, ⟨top, hc2, fun c => absurd c HQ.out⟩⟩, KF.grown HG1.out⟩
end Go.Proofs.Ytplgffbfepnihaa
namespace Go.Proofs.Ytplgffbfepnihaa
open Go.RowKit Go.Maps Go.Proofs.YtplgffbfepnihaaW.PrintWords Go.Proofs.Ytplgffbfepnihaa.Pure
def KOk (l : List Int) : Prop := Asc l ∧ l.length ≤ 1024
theorem rd_nat {l : List Int} {j : Nat} (h : j < l.length) : rd l (j : Int) = l[j] := by
 simp [rd, List.getD, List.getElem?_eq_getElem h]
theorem asc_steps {l : List Int} (h : ∀ j, 1 ≤ j → j < l.length → rd l ((j : Int) - 1) < rd l j) : Asc l := by
 have step : ∀ (d i : Nat), i + d + 1 < l.length → rd l (i : Int) < rd l ((i + d + 1 : Nat) : Int) := by
  intro d
  induction d with
  | zero => intro i hi; have := h (i + 1) zk6 hi; rwa [show (((i + 1 : Nat) : Int) - 1) = (i : Int) by omega] at this
  | succ d ih =>
   intro i hi; have h1 := ih i zk6; have h2 := h (i + (d + 1) + 1) zk6 hi; rw [show (((i + (d + 1) + 1 : Nat) : Int) - 1) = ((i + d + 1 : Nat) : Int) by omega] at h2; omega
 rw [show Asc l = l.Pairwise (· < ·) from rfl, List.pairwise_iff_getElem]; intro i j hi hj hij; have := step (j - i - 1) i zk6; rw [show i + (j - i - 1) + 1 = j by omega, rd_nat hi, rd_nat hj] at this; exact this
theorem asc_at {l : List Int} (h : Asc l) {i j : Nat} (hij : i < j) (hj : j < l.length) : rd l (i : Int) < rd l (j : Int) := by
 rw [rd_nat (show i < l.length by omega), rd_nat hj]; exact List.pairwise_iff_getElem.1 h i j zk6 hj hij
end Go.Proofs.Ytplgffbfepnihaa
namespace Go.Proofs.Ytplgffbfepnihaa
open Go.RowKit Go.Maps Go.Proofs.YtplgffbfepnihaaW.PrintWords Go.Proofs.YtplgffbfepnihaaW.PrintLast Go.Proofs.YtplgffbfepnihaaW.PrintMore Go.Proofs.Ytplgffbfepnihaa.Pure Go.Proofs.Ytplgffbfepnihaa.Q
theorem C_of_own {w : World} {base : Nat} {v : Value} {l : List Int} (h : w.ownsRow base 41 1 v l.length (nums .u64 l)) : ∃ A c, v = .slice A l.length c ∧ l.length ≤ c ∧ Kd.C (Kd.int .u64) w A l.length l := by
 have := Kd.R_reads (Kd.R_of_own (α := Int) (enc := Value.int .u64) (h1 := fun _ => rfl) (ok := fun _ => True) h (fun _ _ => trivial)); exact this
theorem add_u (kb mb : Nat) (S : List Int) (s : ByteArray) (w : World) (hk : KM w kb mb S) (k : Nat) (r : Int) (hf : fnv_Of.f k s = some r) (hr : 0 ≤ r ∧ r < 18446744073709551616) :
  Calls Try.prog 53 #[.pointer (some ⟨kb, 0, none⟩), .string s] w fun e w' => e = .returned (.tuple #[]) ∧ KM w' kb mb (khash S r) ∧ KF w w' kb mb := by
 have C := fnv_Of.calls k s r w hf; have HK := Lib.hid hk; clear hk hf; go_enter Try.func53, Try.ntmps53
 go_wp2_with (first
  | (go_at_call 81; refine C.mono ?_; rintro e w1 ⟨rfl, hd⟩; clear C; have hb := hd.below; have C2 := hash_u kb mb S r hr w1 (HK.out.block (hb.block kb (Array.getElem?_eq_some_iff.1 HK.out.cells.choose_spec.1).1) (hb.block mb HK.out.map.lt)); have HB := Lib.hid hb; clear hb hd)
  | (go_at_call 80; refine C2.mono ?_; rintro e w2 ⟨rfl, h2, hF⟩; clear C2))
 go_end0
 exact ⟨rfl, h2, (KF.below HB.out).trans hF⟩
end Go.Proofs.Ytplgffbfepnihaa
namespace Go.Proofs.Ytplgffbfepnihaa
open Go.RowKit Go.Maps Go.Proofs.YtplgffbfepnihaaW.PrintWords Go.Proofs.YtplgffbfepnihaaW.PrintLast Go.Proofs.YtplgffbfepnihaaW.PrintMore Go.Proofs.Ytplgffbfepnihaa.Pure Go.Proofs.Ytplgffbfepnihaa.Q
theorem KF.belowOf {w0 w w' : World} {kb mb : Nat} (h : KF w w' kb mb) (hb : Below w0.heap.size w0 w) (h1 : w0.heap.size ≤ kb) (h2 : w0.heap.size ≤ mb) : Below w0.heap.size w0 w' :=
 ⟨h.1.trans hb.os, h.2.1.trans hb.tape, h.2.2.1.trans hb.output, Nat.le_trans hb.size h.2.2.2.1, fun i hi => (h.2.2.2.2 i (Nat.lt_of_lt_of_le hi hb.size) zk6 zk6).trans (hb.block i hi)⟩
end Go.Proofs.Ytplgffbfepnihaa
namespace Go.Proofs.Ytplgffbfepnihaa
open Go.RowKit Go.Maps Go.Proofs.YtplgffbfepnihaaW.PrintWords Go.Proofs.YtplgffbfepnihaaW.PrintLast Go.Proofs.YtplgffbfepnihaaW.PrintMore Go.Proofs.Ytplgffbfepnihaa.Pure Go.Proofs.Ytplgffbfepnihaa.Q
instance (l : List Int) : Decidable (KOk l) := by unfold KOk; infer_instance
theorem refCheck_go (l : List Int) (hL : l.length ≤ 4611686018427387904) : ∀ (n i : Nat), l.length + 1 - i = n → 1 ≤ i → (∀ j, 1 ≤ j → j < i → j < l.length → rd l ((j : Int) - 1) < rd l j) →
  varveref08_Check.l0 (n + 1) l (i : Int) = some (decide (KOk l)) := by
 intro n
 induction n with
 | zero =>
  intro i h1 h2 h3; rw [varveref08_Check.l0, if_neg zk6]; congr 1; refine decide_eq_decide.2 ⟨fun c => ⟨asc_steps fun j a b => h3 j a zk6 b, zk6⟩, fun c => by have := c.2; omega⟩
 | succ n ih =>
  intro i h1 h2 h3; by_cases hi : i < l.length
  ·have w1 : wrap64 ((i : Int) - 1) = (i : Int) - 1 := by unfold wrap64; omega
   have w2 : wrap64 ((i : Int) + 1) = ((i + 1 : Nat) : Int) := zk154
   rw [varveref08_Check.l0, if_pos zk6, if_pos zk6, w1, if_pos zk6, if_pos zk6, w2]; by_cases hp : rd l (i : Int) ≤ rd l ((i : Int) - 1)
   ·rw [if_pos hp]; congr 1; refine (decide_eq_false fun c => ?_).symm; have := asc_at c.1 (show i - 1 < i by omega) hi; rw [show ((i - 1 : Nat) : Int) = (i : Int) - 1 by omega] at this; omega
   ·rw [if_neg hp]
    refine ih (i + 1) zk6 zk6 fun j a b c => ?_
    rcases Nat.lt_or_ge j i with d | d
    ·exact h3 j a d c
    ·obtain rfl : j = i := by omega
     omega
  ·rw [varveref08_Check.l0, if_neg zk6]; congr 1; refine decide_eq_decide.2 ⟨fun c => ⟨asc_steps fun j a b => h3 j a zk6 b, zk6⟩, fun c => by have := c.2; omega⟩
theorem refCheck_all (l : List Int) (hL : l.length ≤ 4611686018427387904) : varveref08_Check.f (l.length + 1) l = some (decide (KOk l)) := by
 unfold varveref08_Check.f; exact refCheck_go l hL l.length 1 zk6 (Nat.le_refl _) fun j a b _ => zk6
end Go.Proofs.Ytplgffbfepnihaa
namespace Go.Proofs.Ytplgffbfepnihaa
open Go.RowKit Go.Maps Go.Proofs.YtplgffbfepnihaaW.PrintWords Go.Proofs.YtplgffbfepnihaaW.PrintLast Go.Proofs.YtplgffbfepnihaaW.PrintMore Go.Proofs.Ytplgffbfepnihaa.Pure Go.Proofs.Ytplgffbfepnihaa.Q
def KS (w0 W : World) (m : List (Nat × Nat × List Int)) : Prop :=
 (∀ p ∈ m, KM W p.1 p.2.1 p.2.2 ∧ w0.heap.size ≤ p.1 ∧ w0.heap.size ≤ p.2.1) ∧
 (∀ (i j : Nat) (p q : Nat × Nat × List Int), i ≠ j → m[i]? = some p → m[j]? = some q → p.1 ≠ q.1 ∧ p.1 ≠ q.2.1 ∧ p.2.1 ≠ q.1 ∧ p.2.1 ≠ q.2.1) ∧ Below w0.heap.size w0 W
theorem KM.lt {w : World} {kb mb : Nat} {S : List Int} (h : KM w kb mb S) : kb < w.heap.size ∧ mb < w.heap.size := by
 obtain ⟨t, e, _⟩ := h.cells; exact ⟨(Array.getElem?_eq_some_iff.1 e).1, h.map.lt⟩
theorem KM.below {w w' : World} {kb mb : Nat} {S : List Int} (h : KM w kb mb S) (hb : Below w.heap.size w w') : KM w' kb mb S :=
 h.block (hb.block kb h.lt.1) (hb.block mb h.lt.2)
theorem KM.kf {w w' : World} {kb mb k m : Nat} {S : List Int} (h : KM w kb mb S) (hf : KF w w' k m) (h1 : kb ≠ k) (h2 : kb ≠ m) (h3 : mb ≠ k) (h4 : mb ≠ m) : KM w' kb mb S :=
 h.block (hf.2.2.2.2 kb h.lt.1 h1 h2) (hf.2.2.2.2 mb h.lt.2 h3 h4)
theorem KS.bel {w0 W : World} {m : List (Nat × Nat × List Int)} (h : KS w0 W m) : Below w0.heap.size w0 W := h.2.2
theorem KS.at_ {w0 W : World} {m : List (Nat × Nat × List Int)} (h : KS w0 W m) (i : Nat) {k b : Nat} {s : List Int} (hi : m[i]? = some (k, b, s)) : KM W k b s ∧ w0.heap.size ≤ k ∧ w0.heap.size ≤ b :=
 h.1 _ (List.mem_of_getElem? hi)
theorem KS.below {w0 W W' : World} {m : List (Nat × Nat × List Int)} (h : KS w0 W m) (hb : Below W.heap.size W W') : KS w0 W' m :=
 ⟨fun p hp => ⟨(h.1 p hp).1.below hb, (h.1 p hp).2⟩, h.2.1, h.2.2.trans (hb.mono h.2.2.size)⟩
theorem KS.put {w0 W W' : World} {m : List (Nat × Nat × List Int)} (h : KS w0 W m) (i : Nat) {k b : Nat} {s s' : List Int} (hi : m[i]? = some (k, b, s)) (hk : KF W W' k b) (hg : KM W' k b s') : KS w0 W' (m.set i (k, b, s')) := by
 have hlt : i < m.length := (List.getElem?_eq_some_iff.1 hi).1; have hb : Below w0.heap.size w0 W' := hk.belowOf h.bel (h.at_ i hi).2.1 (h.at_ i hi).2.2
 have old : ∀ (j : Nat) (p : Nat × Nat × List Int), (m.set i (k, b, s'))[j]? = some p → (i = j ∧ p = (k, b, s')) ∨ (i ≠ j ∧ m[j]? = some p) := fun j p hp => by
  rw [List.getElem?_set] at hp; by_cases c : i = j
  ·rw [if_pos c, if_pos zk6] at hp; exact .inl ⟨c, (Option.some.inj hp).symm⟩
  ·rw [if_neg c] at hp; exact .inr ⟨c, hp⟩
 refine ⟨fun p hp => ?_, fun j l p q hjl hp hq => ?_, hb⟩
 ·obtain ⟨j, hj⟩ := List.getElem?_of_mem hp
  rcases old j p hj with ⟨_, rfl⟩ | ⟨c, hj⟩
  ·exact ⟨hg, (h.at_ i hi).2⟩
  ·have hm := h.1 p (List.mem_of_getElem? hj); have := h.2.1 j i p _ (Ne.symm c) hj hi; exact ⟨hm.1.kf hk this.1 this.2.1 this.2.2.1 this.2.2.2, hm.2⟩
 ·rcases old j p hp with ⟨hj, rfl⟩ | ⟨cj, hp⟩ <;> rcases old l q hq with ⟨hl, rfl⟩ | ⟨cl, hq⟩
  ·omega
  ·exact h.2.1 i l (k, b, s) q cl hi hq
  ·exact h.2.1 j i p (k, b, s) (Ne.symm cj) hp hi
  ·exact h.2.1 j l p q hjl hp hq
theorem KS.add {w0 W : World} {m : List (Nat × Nat × List Int)} (h : KS w0 W m) (i : Nat) {k b : Nat} {s : List Int} (hi : m[i]? = some (k, b, s)) {t : ByteArray} {n : Nat} {v : Int} (hf : fnv_Of.f n t = some v) (hv : 0 ≤ v ∧ v < 18446744073709551616) :
  Calls Try.prog 53 #[.pointer (some ⟨k, 0, none⟩), .string t] W fun e w' => e = .returned (.tuple #[]) ∧ KS w0 w' (m.set i (k, b, khash s v)) ∧ KF W w' k b :=
 (add_u k b s t W (h.at_ i hi).1 n v hf hv).mono fun _ _ ⟨he, hk, hf⟩ => ⟨he, h.put i hi hf hk, hf⟩
theorem KS.hashes {w0 W : World} {m : List (Nat × Nat × List Int)} (h : KS w0 W m) (i : Nat) {k b : Nat} {s : List Int} (hi : m[i]? = some (k, b, s)) :
  Calls Try.prog 56 #[.pointer (some ⟨k, 0, none⟩)] W fun e w' => ∃ A c, e = .returned (.slice A s.length c) ∧ s.length ≤ c ∧ Kd.C (Kd.int .u64) w' A s.length s ∧ w'.ownsRow W.heap.size 41 1 (.slice A s.length c) s.length (nums .u64 s) ∧ KS w0 w' m ∧ Below W.heap.size W w' :=
 (hashes_u k b s W (h.at_ i hi).1).mono fun _ _ ⟨v, he, ho, hb⟩ => by
  obtain ⟨A, c, rfl, hc, hC⟩ := C_of_own ho; exact ⟨A, c, he, hc, hC, ho, h.below hb, hb⟩
end Go.Proofs.Ytplgffbfepnihaa
namespace Go.Proofs.Ytplgffbfepnihaa
open Go.RowKit Go.Maps Go.Proofs.YtplgffbfepnihaaW.PrintWords Go.Proofs.YtplgffbfepnihaaW.PrintLast Go.Proofs.YtplgffbfepnihaaW.PrintMore Go.Proofs.Ytplgffbfepnihaa.Pure Go.Proofs.Ytplgffbfepnihaa.Q
def Pure.WU (l : List Int) : Prop := l.length * 8 ≤ 140737488351232 ∧ l.length ≤ 9223372036854775807 ∧ ∀ x ∈ l, (Lit.int .u64 x).wf = true
theorem opens40 : Opens Try.prog 40 (Kd.slice 41 (Kd.int .u64)) Pure.WU := opens_slice Try.underlying40 (by kernel_rfl) (by kernel_rfl) (opens_int Try.underlying41)
theorem U_of {x : Int} (h : (Lit.int .u64 x).wf = true) : 0 ≤ x ∧ x < 18446744073709551616 := by
 have e1 : IntKind.u64.min = 0 := zk47
 have e2 : IntKind.u64.max = 18446744073709551615 := zk47
 simp only [Lit.wf, e1, e2, Bool.and_eq_true, decide_eq_true_eq] at h; omega
theorem Pure.WU.num {l : List Int} (h : Pure.WU l) : ∀ x ∈ l, 0 ≤ x ∧ x < 18446744073709551616 := fun x hx => U_of (h.2.2 x hx)
end Go.Proofs.Ytplgffbfepnihaa
namespace Go.Proofs.Ytplgffbfepnihaa
open Go.RowKit Go.Proofs.YtplgffbfepnihaaW.PrintWords Go.Proofs.YtplgffbfepnihaaW.PrintLast Go.Proofs.YtplgffbfepnihaaW.PrintMore Go.Proofs.Ytplgffbfepnihaa.Pure Go.Proofs.Ytplgffbfepnihaa.Hi Go.Proofs.Ytplgffbfepnihaa.Vt
theorem asc_rise {l : List Int} (h : Asc l) (hu : ∀ x ∈ l, 0 ≤ x ∧ x < 18446744073709551616) : RiseL l :=
 ⟨hu, fun i hi => by rw [rd_get l (by omega : i < l.length), rd_get l hi]; exact List.pairwise_iff_getElem.1 h i (i + 1) _ _ zk6⟩
theorem kget_any {A : Option Addr} {c : Nat} {b : List Int} (hb : WBy b) (a : Int) {w : World} (hC : Kd.C (Kd.int .u8) w A b.length b) (hc : b.length ≤ c) :
  Calls Try.prog 27 #[.slice A b.length c, .int .i64 a] w (RisePost (riseAt b a 1024) w) := by
 have HG := Lib.hid (show Calls Try.prog 64 #[.slice A b.length c, .int .i64 a, .int .i64 1024] w (RisePost (riseAt b a 1024) w) from getRise_any hb a 1024 zk47 hC hc hb.1); clear hC hc hb; go_enter Try.func27, Try.ntmps27
 cases h0 : riseAt b a 1024 with
 | none =>
  rw [h0] at HG; (go_wp2_with (go_at_call 64; (with_reducible refine HG.out.mono ?_); rintro e w1 ⟨hb1, -, h2⟩; obtain rfl := h2 rfl; have HB := Lib.hid hb1; clear hb1 h2 HG)); go_ret3
  exact RisePost.no rfl HB.out
 | some x =>
  obtain ⟨l, q⟩ := x; rw [h0] at HG; (go_wp2_with (go_at_call 64; (with_reducible refine HG.out.mono ?_); rintro e w1 ⟨hb1, h2, -⟩; obtain ⟨r, rfl, hR⟩ := h2 l q rfl; have HB := Lib.hid hb1; have HR := Lib.hid hR; clear hb1 hR h2 HG)); go_ret3
  exact ⟨HB.out, (fun l' q' e => by cases e; exact ⟨_, rfl, HR.out⟩), fun e => by cases e⟩
theorem kput_any {A : Option Addr} {c : Nat} {xs : List Int} {B : Option Addr} {d : Nat} {ls : List Int} {w : World} (hC : Kd.C (Kd.int .u8) w A xs.length xs) (hc : xs.length ≤ c) (hL : Kd.C (Kd.int .u64) w B ls.length ls) (hn : ∀ n ∈ ls, 0 ≤ n ∧ n < 18446744073709551616) (hl : xs.length + 10 * ls.length + 60 ≤ 140737488355328) :
  Calls Try.prog 24 #[.slice A xs.length c, .slice B ls.length d] w fun e w' => ∃ r, e = .returned r ∧ Kd.R (Kd.int .u8) 5 w' w.heap.size (fun _ => True) r (xs ++ encN ls.length ++ encL (diffs ls ls.length)) ∧ Below w.heap.size w w' := by
 have HP := Lib.hid (putRise_any (d := d) hC hc hL hn hl); clear hC hc hL hn hl; go_enter Try.func24, Try.ntmps24; (go_wp2_with (go_at_call 63; (with_reducible refine HP.out.mono ?_); rintro e w1 ⟨r, rfl, hR, hb1⟩; have HB := Lib.hid hb1; have HR := Lib.hid hR; clear hb1 hR HP)); go_ret
 exact ⟨_, rfl, HR.out, HB.out⟩
end Go.Proofs.Ytplgffbfepnihaa
namespace Go.Proofs.Ytplgffbfepnihaa.Pure
open Go.RowKit Go.Proofs.YtplgffbfepnihaaW.PrintWords Go.Proofs.YtplgffbfepnihaaW.PrintLast Go.Proofs.YtplgffbfepnihaaW.PrintMore Go.Proofs.Ytplgffbfepnihaa.Hi Go.Proofs.Ytplgffbfepnihaa.Vt
def gaps (next : Int) : List S70 → List Int
 | [] => []
 | x :: l => encN (x.f0 - next).toNat ++ encN x.f1.toNat ++ gaps (x.f0 + 1) l
def sparseB (l : List S70) : List Int := encN 0 ++ encN l.length ++ gaps 0 l
def spots : Nat → Int → List S70 → List Int
 | 0, _, _ => []
 | m + 1, next, [] => 0 :: spots m (next + 1) []
 | m + 1, next, x :: r => if x.f0 = next then encN x.f1.toNat ++ spots m (next + 1) r else 0 :: spots m (next + 1) (x :: r)
def cnt (next : Int) : List S70 → Nat
 | [] => 0
 | x :: r => (x.f0 - next).toNat + 1 + cnt (x.f0 + 1) r
def denseB (l : List S70) : List Int := encN 1 ++ encN (rd_T70 l 0).f0.toNat ++ encN (cnt (rd_T70 l 0).f0 l) ++ spots (cnt (rd_T70 l 0).f0 l) (rd_T70 l 0).f0 l
def formB (l : List S70) : List Int := if l.length = 0 then sparseB l else if (denseB l).length < (sparseB l).length then denseB l else sparseB l
def Bnum (l : List S70) : Prop := ∀ x ∈ l, 0 ≤ x.f1 ∧ x.f1 < 18446744073709551616
theorem Bnum.tail {x : S70} {l : List S70} (h : Bnum (x :: l)) : Bnum l := fun y hy => h y (List.mem_cons_of_mem _ hy)
theorem chk_head {last : Int} {x : S70} {l : List S70} (h : chkFrom last (x :: l) = true) : last < x.f0 ∧ x.f0 < 7424 ∧ x.f1 ≠ 0 ∧ chkFrom x.f0 l = true := by
 simp only [chkFrom, Bool.and_eq_true, decide_eq_true_eq, Bool.not_eq_true', beq_eq_false_iff_ne] at h; exact ⟨h.1, h.2.1, h.2.2.1, h.2.2.2⟩
theorem chk_cnt : ∀ (l : List S70) (next : Int), chkFrom (next - 1) l = true → next ≤ 7424 → next + cnt next l ≤ 7424 ∧ ∀ x ∈ l, next ≤ x.f0 ∧ x.f0 < next + cnt next l
 | [], next, _, h => ⟨by simp [cnt, h], fun x hx => by cases hx⟩
 | x :: r, next, h, _ => by
  obtain ⟨h1, h2, _, h4⟩ := chk_head h; have ih := chk_cnt r (x.f0 + 1) (by rw [show x.f0 + 1 - 1 = x.f0 by omega]; exact h4) zk6; refine ⟨by rw [cnt]; have := ih.1; omega, fun y hy => ?_⟩; rw [cnt]
  rcases List.mem_cons.1 hy with rfl | hy
  ·omega
  ·have := ih.2 y hy; omega
theorem cnt_len : ∀ (l : List S70) (next : Int), l.length ≤ cnt next l
 | [], _ => Nat.zero_le _
 | x :: r, next => by have := cnt_len r (x.f0 + 1); rw [cnt, List.length_cons]; omega
theorem chk_len {l : List S70} (h : chk l = true) : l.length ≤ 7424 := by
 have h1 := (chk_cnt l 0 h zk6).1; have := cnt_len l 0; omega
theorem chk_first {x : S70} {r : List S70} (h : chk (x :: r) = true) : 0 ≤ x.f0 ∧ x.f0 < 7424 ∧ chkFrom (x.f0 - 1) (x :: r) = true ∧ cnt x.f0 (x :: r) ≤ 7424 := by
 obtain ⟨h1, h2, h3, h4⟩ := chk_head h
 have e : chkFrom (x.f0 - 1) (x :: r) = true := by
  simp only [chkFrom, Bool.and_eq_true, decide_eq_true_eq, Bool.not_eq_true', beq_eq_false_iff_ne]; exact ⟨zk6, h2, h3, h4⟩
 have := (chk_cnt _ _ e zk6).1; exact ⟨zk6, h2, e, zk6⟩
theorem rd_first (x : S70) (r : List S70) : rd_T70 (x :: r) 0 = x := by simp [rd_T70]
theorem rd_last : ∀ (l : List S70) (next : Int), chkFrom (next - 1) l = true → l ≠ [] → (rd_T70 l ((l.length : Int) - 1)).f0 + 1 = next + cnt next l
 | [], _, _, h => absurd rfl h
 | [x], next, h, _ => by
  obtain ⟨h1, _, _, _⟩ := chk_head h; simp [rd_T70, cnt]; omega
 | x :: y :: r, next, h, _ => by
  obtain ⟨h1, _, _, h4⟩ := chk_head h; have ih := rd_last (y :: r) (x.f0 + 1) (by rw [show x.f0 + 1 - 1 = x.f0 by omega]; exact h4) zk56
  have e : rd_T70 (x :: y :: r) (((x :: y :: r).length : Int) - 1) = rd_T70 (y :: r) (((y :: r).length : Int) - 1) := by
   simp only [rd_T70, List.length_cons]; rw [show (((r.length + 1 + 1 : Nat) : Int) - 1).toNat = r.length + 1 by omega, show (((r.length + 1 : Nat) : Int) - 1).toNat = r.length by omega, List.getD_cons_succ]
  rw [e, ih]; show _ = next + (((x.f0 - next).toNat + 1 + cnt (x.f0 + 1) (y :: r) : Nat) : Int)
  omega
def readGo (b : List Int) (sp : Bool) : Nat → Nat → Nat → List S70 → Option (List S70 × Nat)
 | 0, _, p, acc => some (acc, p)
 | m + 1, next, p, acc =>
  match (if sp = true then numAt b (p : Int) else some (0, p)) with
  | none => none
  | some (st, p1) => match numAt b (p1 : Int) with
   | none => none
   | some (n, p2) => if 7424 ≤ st ∨ 7424 ≤ next + st then none else readGo b sp m (next + st + 1) p2 (if 0 < n ∨ sp = true then acc ++ [⟨((next + st : Nat) : Int), (n : Int)⟩] else acc)
def readH (b : List Int) (a : Int) : Option (List S70 × Nat) :=
 match numAt b a with
 | none => none
 | some (h0, p0) => match numAt b (p0 : Int) with
  | none => none
  | some (h1, p1) =>
   if h0 = 1 then (match numAt b (p1 : Int) with
    | none => none
    | some (m, p2) => if 7424 < m ∨ 7424 ≤ h1 then none else readGo b false m h1 p2 [])
   else if 1 < h0 ∨ 7424 < h1 then none else readGo b true h1 0 p1 []
theorem readGo_ok {b : List Int} (hb : WBy b) (sp : Bool) : ∀ (m next p : Nat) (acc l : List S70) (q : Nat), (∀ x ∈ acc, (0 ≤ x.f0 ∧ x.f0 < 7424) ∧ 0 ≤ x.f1 ∧ x.f1 < 18446744073709551616) → p ≤ b.length → readGo b sp m next p acc = some (l, q) →
  p ≤ q ∧ q ≤ b.length ∧ l.length ≤ acc.length + m ∧ ∀ x ∈ l, (0 ≤ x.f0 ∧ x.f0 < 7424) ∧ 0 ≤ x.f1 ∧ x.f1 < 18446744073709551616 := by
 intro m
 induction m with
 | zero => intro next p acc l q ha hp h; rw [readGo] at h; cases h; exact ⟨Nat.le_refl _, hp, Nat.le_refl _, ha⟩
 | succ m ih =>
  intro next p acc l q ha hp h
  rw [readGo] at h; split at h
  ·cases h
  case h_2 st p1 e1 =>
   split at h
   ·cases h
   case h_2 n p2 e2 =>
    split at h
    ·cases h
    case isFalse hc =>
     have hp1 : p ≤ p1 ∧ p1 ≤ b.length := by
      split at e1
      ·have := numAt_at hb e1; omega
      ·cases e1; omega
     have h2 := numAt_at hb e2
     have := ih _ _ _ _ _ (fun x hx => by
      split at hx
      ·rcases List.mem_append.1 hx with hx | hx
       ·exact ha x hx
       ·rw [List.mem_singleton] at hx; subst hx; simp only; omega
      ·exact ha x hx) zk6 h
     refine ⟨zk6, this.2.1, ?_, this.2.2.2⟩; have h3 := this.2.2.1; split at h3
     ·rw [List.length_append, List.length_singleton] at h3; omega
     ·omega
theorem readH_ok {b : List Int} (hb : WBy b) {a : Int} {l : List S70} {q : Nat} (h : readH b a = some (l, q)) :
  0 ≤ a ∧ a ≤ q ∧ q ≤ b.length ∧ l.length ≤ 7424 ∧ ∀ x ∈ l, (0 ≤ x.f0 ∧ x.f0 < 7424) ∧ 0 ≤ x.f1 ∧ x.f1 < 18446744073709551616 := by
 unfold readH at h; split at h
 ·cases h
 case h_2 h0 p0 e0 =>
  have g0 := numAt_at hb e0; split at h
  ·cases h
  case h_2 h1 p1 e1 =>
   have g1 := numAt_at hb e1; split at h
   ·split at h
    ·cases h
    case h_2 m p2 e2 =>
     have g2 := numAt_at hb e2; split at h
     ·cases h
     case isFalse hc => have := readGo_ok hb _ _ _ _ _ _ _ (fun x hx => by cases hx) zk6 h; exact ⟨g0.1, zk6, this.2.1, by have := this.2.2.1; simp at this; omega, this.2.2.2⟩
   ·split at h
    ·cases h
    case isFalse hc => have := readGo_ok hb _ _ _ _ _ _ _ (fun x hx => by cases hx) zk6 h; exact ⟨g0.1, zk6, this.2.1, by have := this.2.2.1; simp at this; omega, this.2.2.2⟩
theorem numAt_here (n : Nat) (hn : n < 18446744073709551616) (xs ys b : List Int) (h : b = xs ++ encN n ++ ys) : numAt b (xs.length : Int) = some (n, (xs ++ encN n).length) := by
 rw [h, numAt_enc n hn, List.length_append]
theorem readGo_sp : ∀ (l : List S70) (next : Nat) (pre ys b : List Int) (acc : List S70), chkFrom ((next : Int) - 1) l = true → Bnum l → b = pre ++ gaps next l ++ ys →
  readGo b true l.length next pre.length acc = some (acc ++ l, (pre ++ gaps next l).length) := by
 intro l
 induction l with
 | nil => intro next pre ys b acc _ _ _; simp [readGo, gaps]
 | cons x r ih =>
  intro next pre ys b acc hc hn hb
  obtain ⟨h1, h2, h3, h4⟩ := chk_head hc; obtain ⟨n1, n2⟩ := hn x (List.mem_cons_self ..); rw [gaps] at hb; obtain ⟨d, hd⟩ : ∃ d, (x.f0 - (next : Int)).toNat = d := ⟨_, rfl⟩
  obtain ⟨c, hcn⟩ : ∃ c : Nat, x.f1 = (c : Int) := ⟨x.f1.toNat, zk6⟩
  have e1 := numAt_here d zk6 pre (encN x.f1.toNat ++ gaps (x.f0 + 1) r ++ ys) b (by rw [hb, hd]; simp); have e2 := numAt_here x.f1.toNat zk6 (pre ++ encN d) (gaps (x.f0 + 1) r ++ ys) b (by rw [hb, hd]; simp); have hf : x.f0 = ((next + d : Nat) : Int) := zk6
  have e3 := ih (next + d + 1) (pre ++ encN d ++ encN x.f1.toNat) ys b (acc ++ [x]) (by rw [show ((next + d + 1 : Nat) : Int) - 1 = x.f0 by omega]; exact h4) hn.tail (by rw [hb, hd, show ((next + d + 1 : Nat) : Int) = x.f0 + 1 by omega]; simp); rw [List.length_cons, readGo, if_pos rfl, e1]; simp only; rw [e2]; simp only; rw [if_neg zk6, if_pos (.inr trivial)]
  have ex : (⟨((next + d : Nat) : Int), (x.f1.toNat : Int)⟩ : S70) = x := by
   rw [← hf, Int.toNat_of_nonneg n1]
  rw [ex, e3, gaps, hd, show ((next + d + 1 : Nat) : Int) = x.f0 + 1 by omega]; simp
theorem readGo_dn : ∀ (m next : Nat) (l : List S70) (pre ys b : List Int) (acc : List S70), chkFrom ((next : Int) - 1) l = true → Bnum l → (∀ x ∈ l, x.f0 < next + m) → next + m ≤ 7424 → b = pre ++ spots m next l ++ ys →
  readGo b false m next pre.length acc = some (acc ++ l, (pre ++ spots m next l).length) := by
 intro m
 induction m with
 | zero =>
  intro next l pre ys b acc hc _ hl _ _
  cases l with
  | nil => simp [readGo, spots]
  | cons x r => have := (chk_head hc).1; have := hl x (List.mem_cons_self ..); omega
 | succ m ih =>
  intro next l pre ys b acc hc hn hl hm hb
  have z0 : encN 0 = [0] := by rw [encN_low zk6]; rfl
  rw [readGo, if_neg zk56]; simp only
  have skip : ∀ (l' : List S70), l' = l → spots (m + 1) next l = 0 :: spots m (next + 1) l' → chkFrom ((next : Int) + 1 - 1) l' = true →
    (match numAt b (pre.length : Int) with
     | none => none
     | some (n, p2) => if 7424 ≤ 0 ∨ 7424 ≤ next + 0 then none else readGo b false m (next + 0 + 1) p2 (if 0 < n ∨ false = true then acc ++ [⟨((next + 0 : Nat) : Int), (n : Int)⟩] else acc)) = some (acc ++ l, (pre ++ spots (m + 1) next l).length) := by
   rintro l' rfl es hc'; rw [es] at hb; have e1 := numAt_here 0 zk6 pre (spots m (next + 1) l' ++ ys) b (by rw [hb, z0]; simp); rw [e1]; simp only; rw [if_neg zk6, if_neg zk56, es]; have e3 := ih (next + 1) l' (pre ++ encN 0) ys b acc (by rw [show ((next + 1 : Nat) : Int) - 1 = (next : Int) + 1 - 1 by omega]; exact hc') hn (fun x hx => by have := hl x hx; omega) zk6 (by rw [hb, z0, show ((next + 1 : Nat) : Int) = (next : Int) + 1 by omega]; simp); rw [Nat.add_zero, e3, z0, show ((next + 1 : Nat) : Int) = (next : Int) + 1 by omega]; simp
  cases l with
  | nil => exact skip [] rfl (by rw [spots]) rfl
  | cons x r =>
   obtain ⟨h1, h2, h3, h4⟩ := chk_head hc; obtain ⟨n1, n2⟩ := hn x (List.mem_cons_self ..); by_cases hx : x.f0 = (next : Int)
   ·have es : spots (m + 1) next (x :: r) = encN x.f1.toNat ++ spots m (next + 1) r := by rw [spots, if_pos hx]
    rw [es] at hb; have e1 := numAt_here x.f1.toNat zk6 pre (spots m (next + 1) r ++ ys) b zk178; rw [e1]; simp only; rw [if_neg zk6, if_pos (.inl zk6), es]
    have ex : (⟨((next + 0 : Nat) : Int), (x.f1.toNat : Int)⟩ : S70) = x := by
     rw [Nat.add_zero, ← hx, Int.toNat_of_nonneg n1]
    have e3 := ih (next + 1) r (pre ++ encN x.f1.toNat) ys b (acc ++ [x]) (by rw [show ((next + 1 : Nat) : Int) - 1 = x.f0 by omega]; exact h4) hn.tail (fun y hy => by have := hl y (List.mem_cons_of_mem _ hy); omega) zk6 (by rw [hb, show ((next + 1 : Nat) : Int) = (next : Int) + 1 by omega]; simp); rw [ex, Nat.add_zero, e3, show ((next + 1 : Nat) : Int) = (next : Int) + 1 by omega]; simp
   ·refine skip (x :: r) rfl (by rw [spots, if_neg hx]) ?_; simp only [chkFrom, Bool.and_eq_true, decide_eq_true_eq, Bool.not_eq_true', beq_eq_false_iff_ne]; exact ⟨zk6, h2, h3, h4⟩
theorem read_enc (l : List S70) (hc : chk l = true) (hn : Bnum l) (pre ys b : List Int) (hb : b = pre ++ formB l ++ ys) : readH b (pre.length : Int) = some (l, (pre ++ formB l).length) := by
 have hs : ∀ b : List Int, b = pre ++ sparseB l ++ ys → readH b (pre.length : Int) = some (l, (pre ++ sparseB l).length) := by
  intro b hb; have hl := chk_len hc; rw [sparseB] at hb; have e0 := numAt_here 0 zk6 pre (encN l.length ++ gaps 0 l ++ ys) b zk178; have e1 := numAt_here l.length zk6 (pre ++ encN 0) (gaps 0 l ++ ys) b zk178; have e2 := readGo_sp l 0 (pre ++ encN 0 ++ encN l.length) ys b [] hc hn zk178; rw [readH, e0]; simp only; rw [e1]; simp only; rw [if_neg zk6, if_neg zk6, e2, sparseB]; simp
 unfold formB at hb ⊢; split at hb
 case isTrue h => rw [if_pos h]; exact hs b hb
 case isFalse h =>
  rw [if_neg h]; split at hb
  case isFalse h' => rw [if_neg h']; exact hs b hb
  case isTrue h' =>
   rw [if_pos h']
   cases l with
   | nil => simp at h
   | cons x r =>
    obtain ⟨f0, f1, f2, f3⟩ := chk_first hc; rw [denseB, rd_first] at hb ⊢; obtain ⟨m, hm⟩ : ∃ m, cnt x.f0 (x :: r) = m := ⟨_, rfl⟩
    rw [hm] at hb f3 ⊢; obtain ⟨a, ha⟩ : ∃ a : Nat, x.f0 = (a : Int) := ⟨x.f0.toNat, zk6⟩
    have hcn := chk_cnt _ _ f2 zk6; rw [hm] at hcn; have e0 := numAt_here 1 zk6 pre (encN x.f0.toNat ++ encN m ++ spots m x.f0 (x :: r) ++ ys) b zk178; have e1 := numAt_here x.f0.toNat zk6 (pre ++ encN 1) (encN m ++ spots m x.f0 (x :: r) ++ ys) b zk178; have e2 := numAt_here m zk6 (pre ++ encN 1 ++ encN x.f0.toNat) (spots m x.f0 (x :: r) ++ ys) b zk178; have e3 := readGo_dn m a (x :: r) (pre ++ encN 1 ++ encN x.f0.toNat ++ encN m) ys b [] (by rw [← ha]; exact f2) hn (fun y hy => by have := hcn.2 y hy; omega) zk6 (by rw [hb, ha]; simp); rw [readH, e0]; simp only; rw [e1]; simp only; rw [if_pos trivial, e2]; simp only; have ea : x.f0.toNat = a := zk6
    rw [if_neg zk6, ea]; rw [ea] at e3; rw [e3, ha]; simp
end Go.Proofs.Ytplgffbfepnihaa.Pure
namespace Go.Proofs.Ytplgffbfepnihaa
open Go.RowKit Go.Maps Go.Deep Go.Proofs.YtplgffbfepnihaaW.PrintWords Go.Proofs.YtplgffbfepnihaaW.PrintLast Go.Proofs.YtplgffbfepnihaaW.PrintMore Go.Proofs.Ytplgffbfepnihaa.Hi Go.Proofs.Ytplgffbfepnihaa.Vt Go.Proofs.Ytplgffbfepnihaa.Pure
def ReadPost (o : Option (List S70 × Nat)) (w : World) (e : Ending) (w' : World) : Prop :=
 Below w.heap.size w w' ∧ (∀ l q, o = some (l, q) → ∃ r, e = .returned (.tuple #[r, .int .i64 (q : Int), .bool true]) ∧ Kd.R k70 70 w' w.heap.size (fun _ => True) r l) ∧ (o = none → e = .returned (.tuple #[.slice none 0 0, .int .i64 0, .bool false]))
theorem ReadPost.no {o : Option (List S70 × Nat)} {w w' : World} (h : o = none) (hb : Below w.heap.size w w') : ReadPost o w (.returned (.tuple #[.slice none 0 0, .int .i64 0, .bool false])) w' :=
 ⟨hb, (fun l q e => by rw [h] at e; cases e), fun _ => rfl⟩
def HeadAt (b : List Int) (a : Int) (j : Nat) (p x y : Int) : Prop :=
 (j = 0 ∧ p = a) ∨ (j = 1 ∧ ∃ h0 p0 : Nat, numAt b a = some (h0, p0) ∧ x = (h0 : Int) ∧ p = (p0 : Int)) ∨
 (j = 2 ∧ ∃ h0 p0 h1 p1 : Nat, numAt b a = some (h0, p0) ∧ numAt b (p0 : Int) = some (h1, p1) ∧ x = (h0 : Int) ∧ y = (h1 : Int) ∧ p = (p1 : Int))
theorem readH_1 {b : List Int} {a : Int} (h : numAt b a = none) : readH b a = none := by rw [readH, h]
theorem readH_2 {b : List Int} {a : Int} {h0 p0 : Nat} (h : numAt b a = some (h0, p0)) (h' : numAt b (p0 : Int) = none) : readH b a = none := by rw [readH, h]; simp only; rw [h']
theorem readH_3 {b : List Int} {a : Int} {h0 p0 h1 p1 : Nat} (h : numAt b a = some (h0, p0)) (h' : numAt b (p0 : Int) = some (h1, p1)) : readH b a =
  if h0 = 1 then (match numAt b (p1 : Int) with
    | none => none
    | some (m, p2) => if 7424 < m ∨ 7424 ≤ h1 then none else readGo b false m h1 p2 [])
   else if 1 < h0 ∨ 7424 < h1 then none else readGo b true h1 0 p1 [] := by rw [readH, h]; simp only; (rw [h'] <;> first | done | rfl)
set_option maxHeartbeats 8000000 in
set_option maxRecDepth 100000 in
theorem read_any {A : Option Addr} {c : Nat} {b : List Int} (hb : WBy b) (a : Int) {w : World} (hC : Kd.C (Kd.int .u8) w A b.length b) (hc : b.length ≤ c) :
  Calls Try.prog 38 #[.slice A b.length c, .int .i64 a] w (ReadPost (readH b a) w) := by
 have HB := Lib.hid hb; have HC := Lib.hid hC; have HCL := Lib.hid hc; clear hb hC hc; go_enter Try.func38, Try.ntmps38; go_wp2; go_loopw [1, 16] (fun v1 v16 wr => ∃ (j : Nat) (p x y : Int), v16 = .int .i64 (j : Int) ∧ v1 = .int .i64 p ∧ wr.heap[w.heap.size]? = some (.cells #[.int .u64 x, .int .u64 y] 98 (0, 0)) ∧ Below w.heap.size w wr ∧ HeadAt b a j p x y) (fun _ v16 _ => 2 - (intOf v16).toNat)
 case atStart => exact ⟨0, a, 0, 0, rfl, rfl, blk_new _ _, below_alloc (Below.refl _ _) _, .inl ⟨rfl, rfl⟩⟩
 case round =>
  obtain ⟨j, p, x, y, rfl, rfl, hcs, hbw, hh⟩ := hrel; have HBW := Lib.hid hbw; have HCS := Lib.hid hcs; clear hbw hcs
  rcases hh with ⟨rfl, hpa⟩ | ⟨rfl, h0, p0, hh0, rfl, rfl⟩ | ⟨rfl, h0, p0, h1, p1, hh0, hh1, rfl, rfl, rfl⟩
  ·skip
   obtain rfl : a = p := hpa.symm; have hCr := Kd.C_below HC.out HBW.out
   cases hq : numAt b a with
   | none =>
    have HQ := Lib.hid (vget_any HB.out a hCr HCL.out (v := 0) (n := 0) (ok := false) zk182); have HN := Lib.hid (show readH b a = none from readH_1 hq); clear hCr hq; (go_wp2_with (go_at_call 72; (with_reducible refine HQ.out.mono ?_); rintro e w3 ⟨rfl, hb3⟩; have HB3 := Lib.hid hb3; have HCS3 := blk_below HCS.out hb3; have pc := blk_cell HCS3 0; have pf := blk_frozen HCS3 0; clear hb3 HQ)); go_ret3
    exact zk250
   | some z =>
    obtain ⟨v, q⟩ := z; have HQ := Lib.hid (vget_any HB.out a hCr HCL.out (v := v) (n := q) (ok := true) zk182); have HE := Lib.hid hq; clear hCr hq; (go_wp2_with (go_at_call 72; (with_reducible refine HQ.out.mono ?_); rintro e w3 ⟨rfl, hb3⟩; have HB3 := Lib.hid hb3; have HCS3 := blk_below HCS.out hb3; have pc := blk_cell HCS3 0; have pf := blk_frozen HCS3 0; clear hb3 HQ)); go_roundw
    case rel => exact ⟨1, (q : Int), (v : Int), y, zk176, rfl, blk_put HCS3 0 _ rfl, below_set (below_then HBW.out HBW.out.size HB3.out) (Nat.le_refl _), .inr (.inl ⟨rfl, v, q, HE.out, rfl, rfl⟩)⟩
    case measure => simp [intOf]
  ·have HH := Lib.hid hh0; clear hh0
   skip
   have hCr := Kd.C_below HC.out HBW.out
   cases hq : numAt b (p0 : Int) with
   | none =>
    have HQ := Lib.hid (vget_any HB.out (p0 : Int) hCr HCL.out (v := 0) (n := 0) (ok := false) zk182); have HN := Lib.hid (show readH b a = none from readH_2 HH.out hq); clear hCr hq; (go_wp2_with (go_at_call 72; (with_reducible refine HQ.out.mono ?_); rintro e w3 ⟨rfl, hb3⟩; have HB3 := Lib.hid hb3; have HCS3 := blk_below HCS.out hb3; have pc := blk_cell HCS3 1; have pf := blk_frozen HCS3 1; clear hb3 HQ)); go_ret3
    exact zk250
   | some z =>
    obtain ⟨v, q⟩ := z; have HQ := Lib.hid (vget_any HB.out (p0 : Int) hCr HCL.out (v := v) (n := q) (ok := true) zk182); have HE := Lib.hid hq; clear hCr hq; (go_wp2_with (go_at_call 72; (with_reducible refine HQ.out.mono ?_); rintro e w3 ⟨rfl, hb3⟩; have HB3 := Lib.hid hb3; have HCS3 := blk_below HCS.out hb3; have pc := blk_cell HCS3 1; have pf := blk_frozen HCS3 1; clear hb3 HQ)); go_roundw
    case rel => exact ⟨2, (q : Int), (h0 : Int), (v : Int), zk176, rfl, blk_put HCS3 1 _ rfl, below_set (below_then HBW.out HBW.out.size HB3.out) (Nat.le_refl _), .inr (.inr ⟨rfl, h0, p0, v, q, HH.out, HE.out, rfl, rfl, rfl⟩)⟩
    case measure => simp [intOf]
  ·have he := readH_3 hh0 hh1
   have hp1 := numAt_at HB.out hh1; have hv0 := numAt_at HB.out hh0; clear hh0 hh1; simp only [show ((2 : Nat) : Int) = 2 from rfl]
   rcases Nat.lt_trichotomy h0 1 with c0 | rfl | c0
   ·obtain rfl : h0 = 0 := by omega
    have pc0 := blk_cell HCS.out 0; have pc1 := blk_cell HCS.out 1; rw [if_neg zk6] at he; by_cases hm : 7424 < h1
    ·have em : decide ((7424 : Int) < (h1 : Int)) = true := decide_eq_true zk6
     have emb : decide (7424 < h1) = true := decide_eq_true hm; have HN := Lib.hid (show readH b a = none by rw [he, if_pos (.inr hm)]); clear he; go_wp2; go_ret3
     exact ReadPost.no HN.out HBW.out
    ·have em : decide ((7424 : Int) < (h1 : Int)) = false := decide_eq_false zk6
     have emb : decide (7424 < h1) = false := decide_eq_false hm; have HE := Lib.hid (show readH b a = readGo b true h1 0 p1 [] by rw [he, if_neg zk6]); have HM := Lib.hid (show h1 ≤ 7424 by omega); clear he; have HB0 := Lib.hid HBW.out; have HCS0 := Lib.hid HCS.out; clear HBW HCS
     rename World => wl
     go_wp2; go_loopw [1, 11, 12, 59] (fun v1 v11 v12 v59 wq => ∃ (i nn p' : Nat) (acc : List S70), v59 = .int .u64 (i : Int) ∧ v1 = .int .i64 (p' : Int) ∧ v11 = .int .u64 (nn : Int) ∧ i ≤ h1 ∧ nn ≤ 7424 ∧ acc.length ≤ i ∧ Kd.R k70 70 wq (w.heap.size + 1) (fun _ => True) v12 acc ∧ readGo b true h1 0 p1 [] = readGo b true (h1 - i) nn p' acc ∧ Below (w.heap.size + 1) wl wq) (fun _ _ _ v59 _ => h1 - (intOf v59).toNat)
     case atStart => exact ⟨0, 0, p1, [], rfl, rfl, rfl, Nat.zero_le _, by have := HM.out; omega, Nat.le_refl _, Kd.R_nil _ _ _ _ _, rfl, Below.refl _ _⟩
     case round =>
      clear pc0 pc1; obtain ⟨i, nn, p', acc, rfl, rfl, rfl, hi, hnn, hla, hR, heq, hbw⟩ := hrel; have HCQ := Lib.hid ((hbw.block _ (Nat.lt_succ_self _)).trans HCS0.out); have HSZ := Lib.hid (Nat.le_trans (blk_lt HCS0.out) hbw.size); have HR := Lib.hid hR; have HEQ := Lib.hid heq; have HBW := Lib.hid hbw; clear hR heq hbw; by_cases hin : i < h1
      ·have e5 : decide ((i : Int) < (h1 : Int)) = true := decide_eq_true zk6
       have e5b : decide (i < h1) = true := decide_eq_true hin; obtain ⟨m', hm2⟩ : ∃ m', h1 - i = m' + 1 := ⟨h1 - i - 1, zk6⟩
       have hgo := HEQ.out; rw [hm2, readGo] at hgo; have HI := Lib.hid (show acc.length ≤ i ∧ i < h1 ∧ h1 ≤ 7424 ∧ nn ≤ 7424 by have := HM.out; omega); have hCr := Kd.C_below HC.out (HB0.out.trans (HBW.out.mono (Nat.le_succ _))); have pc0 := blk_cell HCQ.out 0; clear HEQ; rw [if_pos rfl] at hgo
       cases hq : numAt b (p' : Int) with
       | none =>
        have HQ1 := Lib.hid (vget_any HB.out (p' : Int) hCr HCL.out (v := 0) (n := 0) (ok := false) zk182); have HN := Lib.hid (show readH b a = none by rw [HE.out, hgo, hq]); clear hgo hCr hq; (go_wp2_with (go_at_call 72; (with_reducible refine HQ1.out.mono ?_); rintro e w3 ⟨rfl, hb3⟩; have HB3 := Lib.hid hb3; clear hb3 HQ1)); go_ret3
        exact zk241
       | some z =>
        obtain ⟨st, q⟩ := z; have hv1 := numAt_at HB.out hq; have HQ1 := Lib.hid (vget_any HB.out (p' : Int) hCr HCL.out (v := st) (n := q) (ok := true) zk182); rw [hq] at hgo; simp only at hgo; clear hq
        cases hq2 : numAt b (q : Int) with
        | none =>
         have HQ := Lib.hid (fun W (hb : Below wr.heap.size wr W) => vget_any HB.out (q : Int) (Kd.C_below hCr hb) HCL.out (v := 0) (n := 0) (ok := false) (by simp [hq2, getR])); have HN := Lib.hid (show readH b a = none by rw [HE.out, hgo]; rw [hq2]); clear hgo hCr hq2; (go_wp2_with (first | (go_at_call 72; (with_reducible refine HQ1.out.mono ?_); rintro e w3 ⟨rfl, hb3⟩; have HB2 := Lib.hid hb3; clear hb3 HQ1) | (go_at_call 72; (with_reducible refine (HQ.out _ HB2.out).mono ?_); rintro e w4 ⟨rfl, hb3⟩; have HB3 := Lib.hid ((HB2.out).trans (hb3.mono HB2.out.size)); have p0 := pw_cell_below HB3.out pc0; clear hb3 HQ))); go_ret3
         exact zk241
        | some z2 =>
         obtain ⟨n, q2⟩ := z2; have hv2 := numAt_at HB.out hq2; have HQ := Lib.hid (fun W (hb : Below wr.heap.size wr W) => vget_any HB.out (q : Int) (Kd.C_below hCr hb) HCL.out (v := n) (n := q2) (ok := true) (by simp [hq2, getR])); rw [hq2] at hgo; simp only at hgo; by_cases hs : 7424 ≤ st
         ·have es : decide ((7424 : Int) ≤ (st : Int)) = true := decide_eq_true zk6
          have esb : decide (7424 ≤ st) = true := decide_eq_true hs; have HN := Lib.hid (show readH b a = none by rw [HE.out, hgo, if_pos (.inl hs)]); clear hgo hCr hq2; (go_wp2_with (first | (go_at_call 72; (with_reducible refine HQ1.out.mono ?_); rintro e w3 ⟨rfl, hb3⟩; have HB2 := Lib.hid hb3; clear hb3 HQ1) | (go_at_call 72; (with_reducible refine (HQ.out _ HB2.out).mono ?_); rintro e w4 ⟨rfl, hb3⟩; have HB3 := Lib.hid ((HB2.out).trans (hb3.mono HB2.out.size)); have p0 := pw_cell_below HB3.out pc0; clear hb3 HQ))); go_ret3
          exact zk241
         have es : decide ((7424 : Int) ≤ (st : Int)) = false := decide_eq_false zk6; have esb : decide (7424 ≤ st) = false := decide_eq_false hs; have ew : IntKind.u64.wrap ((nn : Int) + (st : Int)) = ((nn + st : Nat) : Int) := zk144
         by_cases ht : 7424 ≤ nn + st
         ·have et : decide ((7424 : Int) ≤ ((nn + st : Nat) : Int)) = true := decide_eq_true zk6
          have etb : decide (7424 ≤ nn + st) = true := decide_eq_true ht; have HN := Lib.hid (show readH b a = none by rw [HE.out, hgo, if_pos (.inr zk6)]); clear hgo hCr hq2; (go_wp2_with (first | (go_at_call 72; (with_reducible refine HQ1.out.mono ?_); rintro e w3 ⟨rfl, hb3⟩; have HB2 := Lib.hid hb3; clear hb3 HQ1) | (go_at_call 72; (with_reducible refine (HQ.out _ HB2.out).mono ?_); rintro e w4 ⟨rfl, hb3⟩; have HB3 := Lib.hid ((HB2.out).trans (hb3.mono HB2.out.size)); have p0 := pw_cell_below HB3.out pc0; clear hb3 HQ))); go_ret3
          exact zk241
         have et : decide ((7424 : Int) ≤ ((nn + st : Nat) : Int)) = false := decide_eq_false zk6; have etb : decide (7424 ≤ nn + st) = false := decide_eq_false ht; have ex : IntKind.u64.wrap (((nn + st : Nat) : Int) + 1) = ((nn + st + 1 : Nat) : Int) := zk144
         have ey : IntKind.i64.wrap ((nn + st : Nat) : Int) = ((nn + st : Nat) : Int) := zk143
         have ez : IntKind.u64.wrap ((i : Int) + 1) = ((i + 1 : Nat) : Int) := zk144
         by_cases hn : 0 < n
         ·have en : decide ((0 : Int) < (n : Int)) = true := decide_eq_true zk6
          have enb : decide (0 < n) = true := decide_eq_true hn; have HN := Lib.hid (show readGo b true h1 0 p1 [] = readGo b true (h1 - (i + 1)) (nn + st + 1) q2 (acc ++ [⟨((nn + st : Nat) : Int), (n : Int)⟩]) by rw [hgo, if_neg zk6, if_pos (.inl hn)]; rw [show h1 - (i + 1) = m' by omega]); clear hgo hCr hq2; (go_wp2_with (first | (go_at_call 72; (with_reducible refine HQ1.out.mono ?_); rintro e w3 ⟨rfl, hb3⟩; have HB2 := Lib.hid hb3; clear hb3 HQ1) | (go_at_call 72; (with_reducible refine (HQ.out _ HB2.out).mono ?_); rintro e w4 ⟨rfl, hb3⟩; have HB3 := Lib.hid ((HB2.out).trans (hb3.mono HB2.out.size)); have p0 := pw_cell_below HB3.out pc0; clear hb3 HQ) | ((with_reducible refine gate_builtin (b := .append) (xs := #[.tmp 102, .tmp 107]) rfl ?_); at_builtin; go_must (refine Kd.R_append k70 (w0 := wl) (w.heap.size + 1) rfl (.tmp 102) (.tmp 107) 23 70 (.agg #[(.int .i64 0), (.int .u64 0)]) 16 rfl Try.underlying23 info70 rfl zk47 zk6 u12 acc (⟨(nn : Int) + (st : Int), (n : Int)⟩ : S70) [.int .i64 ((nn : Int) + (st : Int)), .int .u64 (n : Int)] (fun _ => True) (fun _ => False) rfl rfl ?aP (fun _ hk => hk.elim) ?aF ?aO ?aB ?aS ?aL ?_; (case aP => exact k70_mkM _ _ _ (⟨(nn : Int) + (st : Int), (n : Int)⟩ : S70)); (case aF => exact zk125); (case aO => exact zk120); (case aB => exact zk110); (case aS => exact zk124); (case aL => exact zk97); intro v5 w5 ho5 hb5 hg5 hat5; have HO5 := Lib.hid ho5; have HB5 := Lib.hid hb5; clear ho5 hb5 hg5 hat5)))); go_roundw
          case rel => exact ⟨i + 1, nn + st + 1, q2, acc ++ [⟨((nn + st : Nat) : Int), (n : Int)⟩], zk108, rfl, zk108, zk97, zk6, zk199, HO5.out, HN.out, HB5.out⟩
          case measure => have := HI.out; simp [intOf]; omega
         ·obtain rfl : n = 0 := by omega
          have HN := Lib.hid (show readGo b true h1 0 p1 [] = readGo b true (h1 - (i + 1)) (nn + st + 1) q2 (acc ++ [⟨((nn + st : Nat) : Int), ((0 : Nat) : Int)⟩]) by rw [hgo, if_neg zk6, if_pos (.inr trivial)]; rw [show h1 - (i + 1) = m' by omega]); clear hgo hCr hq2; (go_wp2_with (first | (go_at_call 72; (with_reducible refine HQ1.out.mono ?_); rintro e w3 ⟨rfl, hb3⟩; have HB2 := Lib.hid hb3; clear hb3 HQ1) | (go_at_call 72; (with_reducible refine (HQ.out _ HB2.out).mono ?_); rintro e w4 ⟨rfl, hb3⟩; have HB3 := Lib.hid ((HB2.out).trans (hb3.mono HB2.out.size)); have p0 := pw_cell_below HB3.out pc0; clear hb3 HQ) | ((with_reducible refine gate_builtin (b := .append) (xs := #[.tmp 102, .tmp 107]) rfl ?_); at_builtin; go_must (refine Kd.R_append k70 (w0 := wl) (w.heap.size + 1) rfl (.tmp 102) (.tmp 107) 23 70 (.agg #[(.int .i64 0), (.int .u64 0)]) 16 rfl Try.underlying23 info70 rfl zk47 zk6 u12 acc (⟨(nn : Int) + (st : Int), 0⟩ : S70) [.int .i64 ((nn : Int) + (st : Int)), .int .u64 0] (fun _ => True) (fun _ => False) rfl rfl ?aP (fun _ hk => hk.elim) ?aF ?aO ?aB ?aS ?aL ?_; (case aP => exact k70_mkM _ _ _ (⟨(nn : Int) + (st : Int), 0⟩ : S70)); (case aF => exact zk125); (case aO => exact zk120); (case aB => exact zk110); (case aS => exact zk124); (case aL => exact zk97); intro v5 w5 ho5 hb5 hg5 hat5; have HO5 := Lib.hid ho5; have HB5 := Lib.hid hb5; clear ho5 hb5 hg5 hat5)))); go_roundw
          case rel => exact ⟨i + 1, nn + st + 1, q2, acc ++ [⟨((nn + st : Nat) : Int), ((0 : Nat) : Int)⟩], zk108, rfl, zk108, zk97, zk6, zk199, HO5.out, HN.out, HB5.out⟩
          case measure => have := HI.out; simp [intOf]; omega
      ·have e5 : decide ((i : Int) < (h1 : Int)) = false := decide_eq_false zk6
       have e5b : decide (i < h1) = false := decide_eq_false hin; obtain rfl : i = h1 := zk6
       have HN := Lib.hid (show readH b a = some (acc, p') by rw [HE.out, HEQ.out, Nat.sub_self]; rfl); go_wp2; go_ret3
       exact zk244
   ·skip
    have pc0 := blk_cell HCS.out 0; have pc1 := blk_cell HCS.out 1; rw [if_pos rfl] at he; have hCr := Kd.C_below HC.out HBW.out
    cases hq : numAt b (p1 : Int) with
    | none =>
     have HQ := Lib.hid (vget_any HB.out (p1 : Int) hCr HCL.out (v := 0) (n := 0) (ok := false) zk182); have HN := Lib.hid (show readH b a = none by rw [he, hq]); clear hCr hq he; (go_wp2_with (go_at_call 72; (with_reducible refine HQ.out.mono ?_); rintro e w3 ⟨rfl, hb3⟩; have HB3 := Lib.hid hb3; clear hb3 HQ)); go_ret3
     exact zk249
    | some z =>
     obtain ⟨m, p2⟩ := z; have hv := numAt_at HB.out hq; have HQ := Lib.hid (vget_any HB.out (p1 : Int) hCr HCL.out (v := m) (n := p2) (ok := true) zk182); rw [hq] at he; simp only at he; clear hCr hq; by_cases hm : 7424 < m
     ·have em : decide ((7424 : Int) < (m : Int)) = true := decide_eq_true zk6
      have emb : decide (7424 < m) = true := decide_eq_true hm; have HN := Lib.hid (show readH b a = none by rw [he, if_pos (.inl hm)]); clear he; (go_wp2_with (go_at_call 72; (with_reducible refine HQ.out.mono ?_); rintro e w3 ⟨rfl, hb3⟩; have HB3 := Lib.hid hb3; have HCS1 := Lib.hid (blk_below HCS.out hb3); have p0 := pw_cell_below hb3 pc0; have p1_ := pw_cell_below hb3 pc1; clear hb3 HQ)); go_ret3
      exact zk249
     have em : decide ((7424 : Int) < (m : Int)) = false := decide_eq_false zk6; have emb : decide (7424 < m) = false := decide_eq_false hm; by_cases hx : 7424 ≤ h1
     ·have ex : decide ((7424 : Int) ≤ (h1 : Int)) = true := decide_eq_true zk6
      have exb : decide (7424 ≤ h1) = true := decide_eq_true hx; have HN := Lib.hid (show readH b a = none by rw [he, if_pos (.inr hx)]); clear he; (go_wp2_with (go_at_call 72; (with_reducible refine HQ.out.mono ?_); rintro e w3 ⟨rfl, hb3⟩; have HB3 := Lib.hid hb3; have HCS1 := Lib.hid (blk_below HCS.out hb3); have p0 := pw_cell_below hb3 pc0; have p1_ := pw_cell_below hb3 pc1; clear hb3 HQ)); go_ret3
      exact zk249
     have ex : decide ((7424 : Int) ≤ (h1 : Int)) = false := decide_eq_false zk6; have exb : decide (7424 ≤ h1) = false := decide_eq_false hx; have HE := Lib.hid (show readH b a = readGo b false m h1 p2 [] by rw [he, if_neg zk6]); have HM := Lib.hid (show m ≤ 7424 ∧ h1 ≤ 7424 by omega); clear he; (go_wp2_with (go_at_call 72; (with_reducible refine HQ.out.mono ?_); rintro e w3 ⟨rfl, hb3⟩; have HB3 := Lib.hid hb3; have HCS1 := Lib.hid (blk_below HCS.out hb3); have p0 := pw_cell_below hb3 pc0; have p1_ := pw_cell_below hb3 pc1; clear hb3 HQ)); have HB0 := Lib.hid (below_then HBW.out HBW.out.size HB3.out); have HCS0 := Lib.hid HCS1.out; clear HBW HCS HCS1 HB3; go_loopw [1, 11, 12, 59] (fun v1 v11 v12 v59 wq => ∃ (i nn p' : Nat) (acc : List S70), v59 = .int .u64 (i : Int) ∧ v1 = .int .i64 (p' : Int) ∧ v11 = .int .u64 (nn : Int) ∧ i ≤ m ∧ nn ≤ 7424 ∧ acc.length ≤ i ∧ Kd.R k70 70 wq (w.heap.size + 1) (fun _ => True) v12 acc ∧ readGo b false m h1 p2 [] = readGo b false (m - i) nn p' acc ∧ Below (w.heap.size + 1) w3 wq) (fun _ _ _ v59 _ => m - (intOf v59).toNat)
     case atStart => exact ⟨0, h1, p2, [], rfl, rfl, rfl, Nat.zero_le _, by have := HM.out; omega, Nat.le_refl _, Kd.R_nil _ _ _ _ _, rfl, Below.refl _ _⟩
     case round =>
      clear pc0 pc1 p0 p1_; obtain ⟨i, nn, p', acc, rfl, rfl, rfl, hi, hnn, hla, hR, heq, hbw⟩ := hrel; have HCQ := Lib.hid ((hbw.block _ (Nat.lt_succ_self _)).trans HCS0.out); have HSZ := Lib.hid (Nat.le_trans (blk_lt HCS0.out) hbw.size); have HR := Lib.hid hR; have HEQ := Lib.hid heq; have HBW := Lib.hid hbw; clear hR heq hbw; by_cases hin : i < m
      ·have e5 : decide ((i : Int) < (m : Int)) = true := decide_eq_true zk6
       have e5b : decide (i < m) = true := decide_eq_true hin; obtain ⟨m', hm2⟩ : ∃ m', m - i = m' + 1 := ⟨m - i - 1, zk6⟩
       have hgo := HEQ.out; rw [hm2, readGo] at hgo; have HI := Lib.hid (show acc.length ≤ i ∧ i < m ∧ m ≤ 7424 ∧ nn ≤ 7424 by have := HM.out; omega); have hCr := Kd.C_below HC.out (HB0.out.trans (HBW.out.mono (Nat.le_succ _))); have pc0 := blk_cell HCQ.out 0; clear HEQ; rw [if_neg zk56] at hgo; simp only [Nat.add_zero] at hgo
       cases hq2 : numAt b (p' : Int) with
       | none =>
        have HQ := Lib.hid (vget_any HB.out (p' : Int) hCr HCL.out (v := 0) (n := 0) (ok := false) (by simp [hq2, getR])); have HN := Lib.hid (show readH b a = none by rw [HE.out, hgo]; rw [hq2]); clear hgo hCr hq2; (go_wp2_with (go_at_call 72; (with_reducible refine HQ.out.mono ?_); rintro e w4 ⟨rfl, hb3⟩; have HB3 := Lib.hid hb3; have p0 := pw_cell_below hb3 pc0; clear hb3 HQ)); go_ret3
        exact zk241
       | some z2 =>
        obtain ⟨n, q2⟩ := z2; have hv2 := numAt_at HB.out hq2; have HQ := Lib.hid (vget_any HB.out (p' : Int) hCr HCL.out (v := n) (n := q2) (ok := true) (by simp [hq2, getR])); rw [hq2] at hgo; simp only at hgo; by_cases ht : 7424 ≤ nn
        ·have et : decide ((7424 : Int) ≤ ((nn : Nat) : Int)) = true := decide_eq_true zk6
         have etb : decide (7424 ≤ nn) = true := decide_eq_true ht; have HN := Lib.hid (show readH b a = none by rw [HE.out, hgo, if_pos (.inr zk6)]); clear hgo hCr hq2; (go_wp2_with (go_at_call 72; (with_reducible refine HQ.out.mono ?_); rintro e w4 ⟨rfl, hb3⟩; have HB3 := Lib.hid hb3; have p0 := pw_cell_below hb3 pc0; clear hb3 HQ)); go_ret3
         exact zk241
        have et : decide ((7424 : Int) ≤ ((nn : Nat) : Int)) = false := decide_eq_false zk6; have etb : decide (7424 ≤ nn) = false := decide_eq_false ht; have ex : IntKind.u64.wrap (((nn : Nat) : Int) + 1) = ((nn + 1 : Nat) : Int) := zk144
        have ey : IntKind.i64.wrap ((nn : Nat) : Int) = ((nn : Nat) : Int) := zk143
        have ez : IntKind.u64.wrap ((i : Int) + 1) = ((i + 1 : Nat) : Int) := zk144
        by_cases hn : 0 < n
        ·have en : decide ((0 : Int) < (n : Int)) = true := decide_eq_true zk6
         have enb : decide (0 < n) = true := decide_eq_true hn; have HN := Lib.hid (show readGo b false m h1 p2 [] = readGo b false (m - (i + 1)) (nn + 1) q2 (acc ++ [⟨((nn : Nat) : Int), (n : Int)⟩]) by rw [hgo, if_neg zk6, if_pos (.inl hn)]; rw [show m - (i + 1) = m' by omega]); clear hgo hCr hq2; (go_wp2_with (first | (go_at_call 72; (with_reducible refine HQ.out.mono ?_); rintro e w4 ⟨rfl, hb3⟩; have HB3 := Lib.hid hb3; have p0 := pw_cell_below hb3 pc0; clear hb3 HQ) | ((with_reducible refine gate_builtin (b := .append) (xs := #[.tmp 102, .tmp 107]) rfl ?_); at_builtin; go_must (refine Kd.R_append k70 (w0 := w3) (w.heap.size + 1) rfl (.tmp 102) (.tmp 107) 23 70 (.agg #[(.int .i64 0), (.int .u64 0)]) 16 rfl Try.underlying23 info70 rfl zk47 zk6 u12 acc (⟨(nn : Int), (n : Int)⟩ : S70) [.int .i64 ((nn : Int)), .int .u64 (n : Int)] (fun _ => True) (fun _ => False) rfl rfl ?aP (fun _ hk => hk.elim) ?aF ?aO ?aB ?aS ?aL ?_; (case aP => exact k70_mkM _ _ _ (⟨(nn : Int), (n : Int)⟩ : S70)); (case aF => exact zk125); (case aO => exact zk120); (case aB => exact zk110); (case aS => exact zk124); (case aL => exact zk97); intro v5 w5 ho5 hb5 hg5 hat5; have HO5 := Lib.hid ho5; have HB5 := Lib.hid hb5; clear ho5 hb5 hg5 hat5)))); go_roundw
         case rel => exact ⟨i + 1, nn + 1, q2, acc ++ [⟨((nn : Nat) : Int), (n : Int)⟩], zk108, rfl, zk108, zk97, zk6, zk199, HO5.out, HN.out, HB5.out⟩
         case measure => have := HI.out; simp [intOf]; omega
        ·obtain rfl : n = 0 := by omega
         have HN := Lib.hid (show readGo b false m h1 p2 [] = readGo b false (m - (i + 1)) (nn + 1) q2 acc by rw [hgo, if_neg zk6, if_neg zk56]; rw [show m - (i + 1) = m' by omega]); clear hgo hCr hq2; (go_wp2_with (go_at_call 72; (with_reducible refine HQ.out.mono ?_); rintro e w4 ⟨rfl, hb3⟩; have HB3 := Lib.hid hb3; have p0 := pw_cell_below hb3 pc0; clear hb3 HQ)); go_roundw
         case rel => exact ⟨i + 1, nn + 1, q2, acc, zk108, rfl, zk108, zk97, zk6, zk97, Kd.R_below HR.out HB3.out, HN.out, below_then HBW.out HSZ.out HB3.out⟩
         case measure => have := HI.out; simp [intOf]; omega
      ·have e5 : decide ((i : Int) < (m : Int)) = false := decide_eq_false zk6
       have e5b : decide (i < m) = false := decide_eq_false hin; obtain rfl : i = m := zk6
       have HN := Lib.hid (show readH b a = some (acc, p') by rw [HE.out, HEQ.out, Nat.sub_self]; rfl); go_wp2; go_ret3
       exact zk244
   ·have HN := Lib.hid (show readH b a = none by rw [he, if_neg zk6, if_pos (.inl c0)])
    have e0 : decide ((1 : Int) < (h0 : Int)) = true := decide_eq_true zk6; have e0b : decide (1 < h0) = true := decide_eq_true c0; have e1 : decide ((h0 : Int) = 1) = false := decide_eq_false zk6; have e1b : decide (h0 = 1) = false := decide_eq_false zk6; have pc0 := blk_cell HCS.out 0; have pc1 := blk_cell HCS.out 1; clear he; go_wp2; go_ret3
    exact ReadPost.no HN.out HBW.out
end Go.Proofs.Ytplgffbfepnihaa
namespace Go.Proofs.Ytplgffbfepnihaa.Hb
open Go.RowKit Go.Proofs.YtplgffbfepnihaaW.PrintWords Go.Proofs.YtplgffbfepnihaaW.PrintLast Go.Proofs.YtplgffbfepnihaaW.PrintMore Go.Proofs.Ytplgffbfepnihaa.Hi Go.Proofs.Ytplgffbfepnihaa.Q Go.Proofs.Ytplgffbfepnihaa.Vt
theorem info5 : (Try.prog.info? 5).map (fun i => (i.zero, i.size, i.bytes)) = some (some (.int .u8 0), 1, 1) := by kernel_rfl
end Go.Proofs.Ytplgffbfepnihaa.Hb
