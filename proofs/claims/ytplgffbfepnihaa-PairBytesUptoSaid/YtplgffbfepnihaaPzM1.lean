/- What the laws of this folder share, part 1: walks of functions over their Go text, and plain lemmas. Conditions: as each lemma says. -/
import Derived.SizedLaws
import Derived.ChangeArms
import Derived.Deep.Slices
import Derived.ProofKit
import Derived.DataShut
import Derived.KernelRfl
import Derived.Laws.Rows
import Derived.StillTailTactics
import Derived.Test.YtplgffbfepnihaaProg
import Derived.Test.YtplgffbfepnihaaRows
import Derived.Below
import Derived.Deep.Draws
import Derived.Deep.AppendLies
import Derived.Maps.AppendAt
import Derived.OwnWalk
import Derived.Laws.BytesArg
import Derived.Laws.MakeOwn
import Derived.Laws.OwnMore
import Derived.Deep.OwnRows
import Derived.Tactics
import Derived.Lib.ConvBytes
import Derived.Laws.Slices
import Derived.WalkKit
import Derived.RowKit3
import Derived.Deep.LoopGhost
import Derived.Deep.QuietTactic
import Derived.BigQuiet
import Derived.WideLaws
import Derived.Deep.DeepCutAuto
import Derived.Deep.CutBlock
import Derived.Deep.RegionHeld3
import Derived.Lib.AppendStr
import Derived.ArgAppend
import Derived.Laws.IdiomCopy
import Derived.OrdersHeld
import Derived.Laws.BitsLemmas
import Derived.RowKit
import Derived.Lib.Hide
import Derived.Test.YtplgffbfepnihaaPzM0
set_option linter.unusedVariables false
set_option linter.unusedSimpArgs false
namespace Go.Proofs.Ytplgffbfepnihaa
open Go.RowKit Go.ChangeShapes Go.WideShapes Go.Deep Go.Proofs.YtplgffbfepnihaaW.PrintWords
def Opens {α : Type} (P : Program) (t : TypeId) (k : Kd α) (wf : α → Prop) : Prop :=
 ∀ {H : Type} {enc : TypeId × Value → H} {w : World} {base : Nat} {spare : Nat → Bool} {held : Bool} {fuel : Nat} {cs : List Value} {x : DataW H × List MemPlace},
  DataW.trod enc P w base spare held fuel t cs = some x → (∀ n ∈ x.1.weights P t, n ≤ reachBytes) → ∃ y, k.K w y cs ∧ wf y
section
variable {P : Program} {t e : TypeId}
theorem opens_int {k : IntKind} (ht : P.underlying t = some (.int k)) : Opens P t (Kd.int k) (fun n => (Lit.int k n).wf = true) := by
 intro H enc w base spare held fuel cs x h _; obtain ⟨n, rfl, _, hw⟩ := DataW.trod_int ht h; exact ⟨n, rfl, hw⟩
theorem weightsAll_mem {H : Type} {e : TypeId} {l : List (DataW H)} {d : DataW H} (hd : d ∈ l) : ∀ n ∈ d.weights P e, n ∈ DataW.weightsAll P e l := by
 induction l with
 | nil => cases hd
 | cons a l ih =>
  intro n hn; rw [DataW.weightsAll, List.mem_append]
  rcases List.mem_cons.1 hd with rfl | hd
  ·exact .inl hn
  ·exact .inr (ih hd n hn)
theorem opens_slice {α : Type} {d : Kd α} {wf : α → Prop} {B : Nat} (ht : P.underlying t = some (.slice e)) (hc : P.cellsOf e = d.sz) (hB : P.bytesOf e = B) (he : Opens P e d wf) :
  Opens P t (Kd.slice e d) (fun xs => xs.length * B ≤ 140737488351232 ∧ xs.length ≤ 9223372036854775807 ∧ ∀ x ∈ xs, wf x) := by
 intro H enc w base spare held fuel cs x h hs
 rcases open_slice ht h with ⟨rfl, rfl⟩ | ⟨a, len, cap, m, n, D, Pl, rfl, hb, hl, hm, hmm, rfl, hi⟩
 ·exact ⟨[], ⟨none, 0, rfl, Nat.le_refl _, Kd.C_nil d w⟩, zk56, zk56, zk56⟩
 ·have hlm : len ≤ m := by rw [hmm]; split <;> omega
  have each : ∀ i, i < len → ∃ y cs', w.cells? base (a.add (i * P.cellsOf e)) (P.cellsOf e) = some cs' ∧ d.K w y cs' ∧ wf y := fun i hil => by
   obtain ⟨cs', h1, h2⟩ := hi i zk6
   obtain ⟨y, h3, h4⟩ := he h2 (fun n hn => hs n (by
    rw [DataW.weights, ht]; refine List.mem_cons_of_mem _ (List.mem_append_left _ (weightsAll_mem (d := D i) ?_ n hn))
    exact List.mem_map.2 ⟨i, List.mem_range.2 hil, rfl⟩))
   exact ⟨y, cs', h1, h3, h4⟩
  have mk : ∀ k, k ≤ len → ∃ ys : List α, ys.length = k ∧ ∀ i y, ys[i]? = some y → ∃ cs', w.cells? base (a.add (i * P.cellsOf e)) (P.cellsOf e) = some cs' ∧ d.K w y cs' ∧ wf y := by
   intro k
   induction k with
   | zero => intro _; exact ⟨[], rfl, fun i y hy => by simp at hy⟩
   | succ k ih =>
    intro hk; obtain ⟨ys, h1, h2⟩ := ih zk6; obtain ⟨y, cs', hy⟩ := each k zk6; refine ⟨ys ++ [y], by simp [h1], fun i z hz => ?_⟩; by_cases c : i < k
    ·rw [List.getElem?_append_left zk6] at hz; exact h2 i z hz
    ·have hik : i = k := by
      have := (List.getElem?_eq_some_iff.1 hz).1; rw [List.length_append, List.length_singleton] at this; omega
     subst hik; rw [List.getElem?_append_right zk6, h1, Nat.sub_self, List.getElem?_cons_zero, Option.some.injEq] at hz; subst hz; exact ⟨cs', hy⟩
  obtain ⟨ys, h1, h2⟩ := mk len (Nat.le_refl _); have hmx : maxLen = 9223372036854775807 := rfl; refine ⟨ys, ⟨some a, cap, by rw [h1], zk6, ?_⟩, ?_, zk6, fun y hy => ?_⟩
  ·refine ⟨rfl, zk6, fun _ => ⟨a, rfl, fun j p hp => ?_⟩⟩; obtain ⟨cs', h3, h4, _⟩ := h2 j p hp; obtain ⟨_, hlen, hcell⟩ := World.cells?_some h3; refine ⟨cs', by rw [hlen, hc], h4, fun i u hu => ?_⟩; have hil := (List.getElem?_eq_some_iff.1 hu).1; rw [← hc, ← Go.Deep.add_add, hcell i zk6]; exact hu
  ·have := hs ((((List.range len).map D).length + ((List.range (m - len)).map fun j => D (len + j)).length) * P.bytesOf e) (by rw [DataW.weights, ht]; exact List.mem_cons_self ..); rw [hB, List.length_map, List.length_range, List.length_map, List.length_range] at this; rw [h1]; refine Nat.le_trans (Nat.mul_le_mul_right B (Nat.le_add_right len _)) this
  ·obtain ⟨i, hi'⟩ := List.mem_iff_getElem?.1 hy; obtain ⟨_, _, _, h5⟩ := h2 i y hi'; exact h5
def OpensFields {α : Type} (P : Program) : List Field → Nat → Kd α → (α → Prop) → Prop := fun fs off k wf =>
 ∀ {H : Type} {enc : TypeId × Value → H} {w : World} {base : Nat} {spare : Nat → Bool} {held : Bool} {fuel : Nat} {cs : List Value} {xs : List (DataW H × List MemPlace)},
  (∀ (i : Nat) (f : Field), fs[i]? = some f → DataW.trod enc P w base spare held fuel f.type ((cs.drop f.offset).take (P.cellsOf f.type)) = xs[i]?) → xs.length = fs.length → cs.length = off + k.sz →
  (∀ n ∈ DataW.weightsEach P (fs.map (·.type)) (xs.map (·.1)), n ≤ reachBytes) → ∃ y, k.K w y (cs.drop off) ∧ wf y
theorem opensFields_one {α : Type} {f : Field} {off : Nat} {k : Kd α} {wf : α → Prop} (ho : f.offset = off) (hc : P.cellsOf f.type = k.sz) (h : Opens P f.type k wf) : OpensFields P [f] off k wf := by
 intro H enc w base spare held fuel cs xs hx hl hcs hs
 obtain ⟨x, rfl⟩ : ∃ x, xs = [x] := by
  cases xs with
  | nil => simp at hl
  | cons x r => cases r with
   | nil => exact ⟨x, rfl⟩
   | cons _ _ => simp at hl
 have h0 := hx 0 f rfl; rw [ho, hc, List.take_of_length_le (by rw [List.length_drop]; omega)] at h0; exact h h0 (fun n hn => hs n (by simpa [DataW.weightsEach] using hn))
theorem opensFields_cons {α β : Type} {f : Field} {fs : List Field} {off : Nat} {a : Kd α} {b : Kd β} {wa : α → Prop} {wb : β → Prop} (ho : f.offset = off) (hc : P.cellsOf f.type = a.sz) (h : Opens P f.type a wa) (hr : OpensFields P fs (off + a.sz) b wb) :
  OpensFields P (f :: fs) off (Kd.pair a b) (fun y => wa y.1 ∧ wb y.2) := by
 intro H enc w base spare held fuel cs xs hx hl hcs hs
 obtain ⟨x, r, rfl⟩ : ∃ x r, xs = x :: r := by
  cases xs with
  | nil => simp at hl
  | cons x r => exact ⟨x, r, rfl⟩
 have h0 := hx 0 f rfl; have hsz : (Kd.pair a b).sz = a.sz + b.sz := rfl; rw [ho, hc] at h0; simp only [List.map_cons, DataW.weightsEach, List.mem_append] at hs; obtain ⟨y, hy, wy⟩ := h h0 (fun n hn => hs n (.inl hn)); obtain ⟨z, hz, wz⟩ := hr (fun i g hg => by have := hx (i + 1) g hg; simpa using this) (by simpa using hl) zk6 (fun n hn => hs n (.inr hn)); refine ⟨(y, z), ⟨(cs.drop off).take a.sz, (cs.drop off).drop a.sz, (List.take_append_drop _ _).symm, hy, ?_⟩, wy, wz⟩; rw [List.drop_drop]; exact hz
theorem opens_struct {α : Type} {fs : Array Field} {k : Kd α} {wf : α → Prop} (ht : P.underlying t = some (.struct fs)) (hc : P.cellsOf t = k.sz) (h : OpensFields P fs.toList 0 k wf) : Opens P t k wf := by
 intro H enc w base spare held fuel cs x hx hs; obtain ⟨xs, n, rfl, rfl, hcl, hxl, hf⟩ := DataW.trod_struct ht hx
 have := h (enc := enc) (w := w) (base := base) (spare := spare) (held := held) (fuel := n) (cs := cs) (xs := xs) (fun i f hfi => hf i f (by simpa using hfi)) (by simpa using hxl) zk6 (fun m hm => hs m (by
  rw [DataW.weights, ht]; exact hm))
 simpa using this
theorem opens_iso {α β : Type} {k : Kd α} {wf : α → Prop} (f : β → α) (g : α → β) (hfg : ∀ x, f (g x) = x) (h : Opens P t k wf) : Opens P t (Kd.iso k f) (fun y => wf (f y)) := by
 intro H enc w base spare held fuel cs x hx hs; obtain ⟨y, h1, h2⟩ := h hx hs; refine ⟨g y, ?_, by show wf (f (g y)); rw [hfg]; exact h2⟩; show k.K w (f (g y)) cs; rw [hfg]; exact h1
theorem Opens.imp {α : Type} {k : Kd α} {wf wf' : α → Prop} (h : Opens P t k wf) (hw : ∀ y, wf y → wf' y) : Opens P t k wf' := by
 intro H enc w base spare held fuel cs x hx hs; obtain ⟨y, h1, h2⟩ := h hx hs; exact ⟨y, h1, hw y h2⟩
theorem Opens.arg {α : Type} {d : Kd α} {e : TypeId} {wf : List α → Prop} {ts : List TypeId} {H : Type} {ds : List (DataW H)} {j : Nat} {enc : TypeId × Value → H} {W : World} {base : Nat} {spare : Nat → Bool} {held : Bool} {v : Value} {x : DataW H} {p : List MemPlace}
  (h : Opens P t (Kd.slice e d) wf) (hsz : (DataW.weightsEach P ts ds).all (· ≤ reachBytes) = true) (ht : ts[j]? = some t) (hd : ds[j]? = some x) (hv : ∃ a len cap, v = .slice a len cap) (hx : DataW.Trod enc P W base spare held t v x p) :
  ∃ A l c, v = .slice A l.length c ∧ l.length ≤ c ∧ Kd.C d W A l.length l ∧ wf l := by
 obtain ⟨fuel, hf⟩ := hx; obtain ⟨a, len, cap, rfl⟩ := hv
 obtain ⟨l, ⟨A, c, hcs, hlc, hC⟩, hw⟩ := h hf (fun n hn => by
  have := List.all_eq_true.1 hsz _ (DataW.weights_mem_each ht hd n hn)
  simpa using this)
 simp [Value.cells] at hcs; obtain ⟨rfl, rfl, rfl⟩ := hcs; exact ⟨_, l, _, rfl, hlc, hC, hw⟩
end
end Go.Proofs.Ytplgffbfepnihaa
namespace Go.Proofs.Ytplgffbfepnihaa.Pure
open Go.RowKit Go.Proofs.Ytplgffbfepnihaa.Hi Go.Proofs.YtplgffbfepnihaaW.PrintWords Go.Proofs.YtplgffbfepnihaaW.PrintLast Go.Proofs.YtplgffbfepnihaaW.PrintMore
theorem w64 {n : Int} (h0 : -9223372036854775808 ≤ n) (h1 : n < 9223372036854775808) : wrap64 n = n := by unfold wrap64; omega
end Go.Proofs.Ytplgffbfepnihaa.Pure
namespace Go.Proofs.Ytplgffbfepnihaa.Pure
open Go.RowKit Go.Proofs.Ytplgffbfepnihaa.Hi
theorem psum_foldl (l : List Int) (s : Int) : l.foldl (· + ·) s = s + psum l := by
 induction l generalizing s with
 | nil => simp [psum]
 | cons x l ih => have a := ih (s + x); have b := ih (0 + x); simp only [psum, List.foldl_cons] at *; omega
theorem psum_cons (x : Int) (l : List Int) : psum (x :: l) = x + psum l := by
 have := psum_foldl l (0 + x); simp only [psum, List.foldl_cons] at *; omega
theorem psum_set (l : List Int) (i : Nat) (x : Int) (h : i < l.length) : psum (l.set i x) = psum l - l.getD i 0 + x := by
 induction l generalizing i with
 | nil => simp at h
 | cons y l ih =>
  cases i with
  | zero => rw [List.set_cons_zero, psum_cons, psum_cons]; simp; omega
  | succ i =>
   rw [List.set_cons_succ, psum_cons, psum_cons, ih i (by simpa using h)]; simp; omega
theorem psum_hzero (n : Nat) : psum (hzero n) = 0 := by
 induction n with
 | zero => rfl
 | succ n ih => unfold hzero at *; rw [List.replicate_succ, psum_cons, ih]; rfl
theorem psum_ge (l : List Int) (h : Cnt l) (i : Nat) (hi : i < l.length) : l.getD i 0 ≤ psum l := by
 induction l generalizing i with
 | nil => simp at hi
 | cons y l ih =>
  have hy := h y zk56; have hl : Cnt l := fun x hx => h x (by simp [hx]); have hp := psum_nonneg l hl; rw [psum_cons]
  cases i with
  | zero => simp; omega
  | succ i => have := ih hl i (by simpa using hi); simp at *; omega
theorem getD_range {l : List Int} (h : Cnt l) (i : Nat) : 0 ≤ l.getD i 0 ∧ l.getD i 0 < 18446744073709551616 := by
 by_cases c : i < l.length
 ·exact h _ (List.mem_of_getElem? (getD_get c))
 ·rw [List.getD, List.getElem?_eq_none zk6]; simp
end Go.Proofs.Ytplgffbfepnihaa.Pure
namespace Go.Proofs.Ytplgffbfepnihaa.Pure
open Go.RowKit Go.Proofs.Ytplgffbfepnihaa.Hi
def WB (l : List S70) : Prop := l.length * 16 ≤ 140737488351232 ∧ l.length ≤ 9223372036854775807 ∧ ∀ b ∈ l, (Lit.int .i64 b.f0).wf = true ∧ (Lit.int .u64 b.f1).wf = true
theorem WB.len {l : List S70} (h : WB l) : l.length < 8796093022208 := by have := h.1; omega
theorem rd_drop {l : List S70} {n : Nat} (h : n < l.length) : l.drop n = rd_T70 l (n : Int) :: l.drop (n + 1) := by
 rw [List.drop_eq_getElem_cons h]; congr 1; rw [rd_T70, Int.toNat_natCast, List.getD, List.getElem?_eq_getElem h]; rfl
def chkFrom (last : Int) : List S70 → Bool
 | [] => true
 | b :: r => decide (last < b.f0) && (decide (b.f0 < 7424) && (!(b.f1 == 0) && chkFrom b.f0 r))
def chk (l : List S70) : Bool := chkFrom (-1) l
theorem check_l0 (l : List S70) (hl : l.length < 8796093022208) : ∀ (d n k : Nat) (last : Int), n + d = l.length → d < k → hist_Check.l0 k last l (l.length : Int) (n : Int) = some (chkFrom last (l.drop n)) := by
 intro d
 induction d with
 | zero =>
  intro n k last hn hk; obtain ⟨k, rfl⟩ : ∃ m, k = m + 1 := ⟨k - 1, zk6⟩
  simp only [hist_Check.l0]; rw [if_neg zk6, List.drop_of_length_le zk6]; rfl
 | succ d ih =>
  intro n k last hn hk; obtain ⟨k, rfl⟩ : ∃ m, k = m + 1 := ⟨k - 1, zk6⟩
  simp only [hist_Check.l0]; rw [if_pos zk6, if_pos zk6, if_pos zk6, rd_drop (show n < l.length by omega), w64 (n := (n : Int) + 1) zk6 zk6]; have := ih (n + 1) k ((rd_T70 l (n : Int)).f0) zk6 zk6; rw [show (n : Int) + 1 = ((n + 1 : Nat) : Int) by omega, this]; simp only [chkFrom]; generalize rd_T70 l (n : Int) = b; by_cases c1 : b.f0 ≤ last
  ·rw [if_pos c1, decide_eq_false zk6]; rfl
  ·rw [if_neg c1, decide_eq_true zk6]
   by_cases c2 : b.f0 ≥ 7424
   ·rw [if_pos c2, decide_eq_false zk6]; rfl
   ·rw [if_neg c2, decide_eq_true zk6]
    by_cases c3 : b.f1 = 0
    ·rw [if_pos c3, c3]; rfl
    ·rw [if_neg c3, beq_eq_false_iff_ne.mpr c3]; rfl
theorem Check_eq (l : List S70) (hl : l.length < 8796093022208) (k : Nat) (hk : l.length < k) : hist_Check.f k l = some (chk l) := by
 unfold hist_Check.f chk; have := check_l0 l hl l.length 0 k (-1) zk6 hk; simpa using this
def before (l : List S70) (n : Nat) : Int := if n = 0 then -1 else (rd_T70 l ((n - 1 : Nat) : Int)).f0
theorem refCheck_l0 (l : List S70) (hl : l.length < 8796093022208) : ∀ (d n k : Nat), n + d = l.length → d < k → -1 ≤ before l n → varveref07_Check.l0 k l (n : Int) = some (chkFrom (before l n) (l.drop n)) := by
 intro d
 induction d with
 | zero =>
  intro n k hn hk _; obtain ⟨k, rfl⟩ : ∃ m, k = m + 1 := ⟨k - 1, zk6⟩
  simp only [varveref07_Check.l0]; rw [if_neg zk6, List.drop_of_length_le zk6]; rfl
 | succ d ih =>
  intro n k hn hk hb; obtain ⟨k, rfl⟩ : ∃ m, k = m + 1 := ⟨k - 1, zk6⟩
  simp only [varveref07_Check.l0]; rw [if_pos zk6, if_pos zk6, rd_drop (show n < l.length by omega), w64 (n := (n : Int) + 1) zk6 zk6, w64 (n := (n : Int) - 1) zk6 zk6]; have hnx : before l (n + 1) = (rd_T70 l (n : Int)).f0 := by unfold before; rw [if_neg zk6, Nat.add_sub_cancel]
  have IH := ih (n + 1) k zk6 zk6; rw [hnx] at IH; rw [show (n : Int) + 1 = ((n + 1 : Nat) : Int) by omega]
  have hbe : (n : Int) > 0 → (rd_T70 l ((n : Int) - 1)).f0 = before l n := fun h => by
   unfold before; rw [if_neg zk6, show ((n - 1 : Nat) : Int) = (n : Int) - 1 by omega]
  have hb0 : ¬ (n : Int) > 0 → before l n = -1 := fun h => by unfold before; rw [if_pos zk6]
  simp only [chkFrom]; generalize rd_T70 l (n : Int) = b at *; generalize before l n = p at *; by_cases c1 : b.f0 < 0
  ·rw [if_pos c1, decide_eq_false zk6]; rfl
  ·rw [if_neg c1]
   by_cases c2 : b.f0 ≥ 7424
   ·rw [if_pos c2, decide_eq_false (p := b.f0 < 7424) zk6]; simp
   ·rw [if_neg c2, decide_eq_true (p := b.f0 < 7424) zk6]
    by_cases c3 : b.f1 = 0
    ·rw [if_pos c3, c3]; simp
    ·rw [if_neg c3, beq_eq_false_iff_ne.mpr c3, IH zk6]
     by_cases c4 : (n : Int) > 0
     ·rw [if_pos c4, if_pos zk6, if_pos zk6, hbe c4]
      by_cases c5 : b.f0 ≤ p
      ·rw [if_pos c5, decide_eq_false zk6]; rfl
      ·rw [if_neg c5, decide_eq_true zk6]; rfl
     ·rw [if_neg c4, hb0 c4, decide_eq_true zk6]; rfl
theorem refCheck_eq (l : List S70) (hl : l.length < 8796093022208) (k : Nat) (hk : l.length < k) : varveref07_Check.f k l = some (chk l) := by
 unfold varveref07_Check.f chk; have := refCheck_l0 l hl l.length 0 k zk6 hk (by simp [before]); simpa [before] using this
end Go.Proofs.Ytplgffbfepnihaa.Pure
namespace Go.Proofs.Ytplgffbfepnihaa
open Go.RowKit Go.Proofs.YtplgffbfepnihaaW.PrintWords Go.Proofs.YtplgffbfepnihaaW.PrintLast Go.Proofs.YtplgffbfepnihaaW.PrintMore Go.Proofs.Ytplgffbfepnihaa.Hi
end Go.Proofs.Ytplgffbfepnihaa
namespace Go.Proofs.Ytplgffbfepnihaa
open Go.Proofs.YtplgffbfepnihaaW.PrintWords Go.Proofs.Ytplgffbfepnihaa.Hi
theorem opens70 : Opens Try.prog 70 k70 (fun b => (Lit.int .i64 b.f0).wf = true ∧ (Lit.int .u64 b.f1).wf = true) :=
 opens_iso (fun x : S70 => (x.f0, x.f1)) (fun p => ⟨p.1, p.2⟩) (fun _ => rfl) (opens_struct Try.underlying70 zk11 (opensFields_cons rfl zk11 (opens_int Try.underlying3) (opensFields_one rfl zk11 (opens_int Try.underlying41))))
theorem opens23 : Opens Try.prog 23 (Kd.slice 70 k70) Pure.WB := opens_slice Try.underlying23 (by kernel_rfl) (by kernel_rfl) opens70
end Go.Proofs.Ytplgffbfepnihaa
namespace Go.Proofs.Ytplgffbfepnihaa.Pure
open Go.RowKit Go.Proofs.Ytplgffbfepnihaa.Hi
def merged (s : List Int) (l : List S70) : List Int := l.foldl (fun s b => hadd s b.f0.toNat b.f1) s
theorem U.of {x : Int} (h : (Lit.int .u64 x).wf = true) : 0 ≤ x ∧ x < 18446744073709551616 := U.of_wf h
theorem hadd_getD (s : List Int) (i j : Nat) (n : Int) (hi : i < s.length) : (hadd s i n).getD j 0 = if j = i then hold (s.getD i 0 + n) else s.getD j 0 := by
 unfold hadd; by_cases c : j = i
 ·subst c; rw [if_pos rfl, List.getD, List.getElem?_set_self hi]; rfl
 ·rw [if_neg c, List.getD, List.getElem?_set_ne zk6]; rfl
theorem merged_spec : ∀ (l : List S70) (s : List Int) (last : Int), hgood s = true → -1 ≤ last → chkFrom last l = true → (∀ b ∈ l, (Lit.int .u64 b.f1).wf = true) → (∀ i : Nat, last < (i : Int) → s.getD i 0 = 0) →
  hgood (merged s l) = true ∧ (∀ i : Nat, (i : Int) ≤ last → (merged s l).getD i 0 = s.getD i 0) ∧ (∀ b ∈ l, last < b.f0 ∧ b.f0 < 7424 ∧ 1 ≤ b.f1 ∧ (merged s l).getD b.f0.toNat 0 = b.f1) ∧ (∀ i : Nat, last < (i : Int) → (∀ b ∈ l, b.f0 ≠ (i : Int)) → (merged s l).getD i 0 = 0) := by
 intro l
 induction l with
 | nil => intro s last hg _ _ _ hz; exact ⟨hg, fun _ _ => rfl, fun b hb => by simp at hb, fun i hi _ => hz i hi⟩
 | cons b l ih =>
  intro s last hg h0 hc hw hz; simp only [chkFrom, Bool.and_eq_true, decide_eq_true_eq, Bool.not_eq_true', beq_eq_false_iff_ne] at hc; obtain ⟨c1, c2, c3, c4⟩ := hc; have hb := U.of (hw b zk56); have hlen := ((hgood_iff _).mp hg).1; obtain ⟨n, hn⟩ : ∃ n : Nat, b.f0 = n := ⟨b.f0.toNat, zk6⟩
  have hnat : b.f0.toNat = n := zk6
  have hs0 : s.getD n 0 = 0 := hz n zk6
  have hget : ∀ j, (hadd s n b.f1).getD j 0 = if j = n then b.f1 else s.getD j 0 := fun j => by
   rw [hadd_getD s n j b.f1 zk6, hs0, Int.zero_add]; have : hold b.f1 = b.f1 := if_pos hb.2; rw [this]
  have hm : merged s (b :: l) = merged (hadd s n b.f1) l := by simp only [merged, List.foldl_cons, hnat]
  obtain ⟨i1, i2, i3, i4⟩ := ih (hadd s n b.f1) b.f0 (hadd_good hg n b.f1 hb.1) zk6 c4 (fun x hx => hw x (by simp [hx])) (fun i hi => by rw [hget, if_neg zk6]; exact hz i zk6); rw [hm]; refine ⟨i1, fun i hi => by rw [i2 i zk6, hget, if_neg zk6], fun x hx => ?_, fun i hi hx => ?_⟩
  ·rcases List.mem_cons.1 hx with rfl | hx
   ·refine ⟨c1, c2, zk6, ?_⟩; rw [hnat, i2 n zk6, hget, if_pos rfl]
   ·obtain ⟨j1, j2, j3, j4⟩ := i3 x hx; exact ⟨zk6, j2, j3, j4⟩
  ·by_cases c : b.f0 < (i : Int)
   ·exact i4 i c (fun x hx' => hx x (by simp [hx']))
   ·have := hx b zk56; rw [i2 i zk6, hget, if_neg zk6]; exact hz i hi
theorem hzero_getD (i : Nat) : (hzero 7424).getD i 0 = 0 := by
 unfold hzero; by_cases c : i < 7424
 ·rw [List.getD, List.getElem?_replicate, if_pos c]; rfl
 ·rw [List.getD, List.getElem?_replicate, if_neg c]; rfl
theorem take_getD (l : List Int) (r i : Nat) (h : i < r) : (l.take r).getD i 0 = l.getD i 0 := by
 rw [List.getD, List.getD, List.getElem?_take_of_lt h]
def up (a n b : Int) : Int := if a * n % b > 0 then a * n / b + 1 else a * n / b
theorem chk_sorted : ∀ (l : List S70) (last : Int), chkFrom last l = true → ∀ b ∈ l, last < b.f0 ∧ ∀ d : S70, b.f0 ≤ (l.getLastD d).f0 := by
 intro l
 induction l with
 | nil => intro last _ b hb; simp at hb
 | cons c l ih =>
  intro last h b hb; simp only [chkFrom, Bool.and_eq_true, decide_eq_true_eq, Bool.not_eq_true', beq_eq_false_iff_ne] at h; obtain ⟨c1, c2, c3, c4⟩ := h
  rcases List.mem_cons.1 hb with rfl | hb
  ·refine ⟨c1, fun d => ?_⟩
   cases l with
   | nil => exact Int.le_refl _
   | cons e l =>
    have := (ih b.f0 c4 e zk56).1; have := (ih b.f0 c4 e zk56).2 b; simp only [List.getLastD_cons] at this ⊢; omega
  ·obtain ⟨i1, i2⟩ := ih c.f0 c4 b hb; refine ⟨zk6, fun d => ?_⟩; rw [List.getLastD_cons]; exact i2 c
end Go.Proofs.Ytplgffbfepnihaa.Pure
namespace Go.Proofs.Ytplgffbfepnihaa
open Go.RowKit Go.Proofs.YtplgffbfepnihaaW.PrintWords Go.Proofs.YtplgffbfepnihaaW.PrintLast Go.Proofs.YtplgffbfepnihaaW.PrintMore Go.Proofs.Ytplgffbfepnihaa.Hi
def bksTo (l : List Int) : Nat → List S70
 | 0 => []
 | n + 1 => if l.getD n 0 > 0 then bksTo l n ++ [(⟨(n : Int), l.getD n 0⟩ : S70)] else bksTo l n
def bks (l : List Int) : List S70 := bksTo l 7424
theorem bksTo_len (l : List Int) (n : Nat) : (bksTo l n).length ≤ n := by
 induction n with
 | zero => exact Nat.le_refl _
 | succ n ih =>
  unfold bksTo; split
  ·rw [List.length_append, List.length_cons, List.length_nil]; omega
  ·omega
set_option maxHeartbeats 1000000 in
set_option maxRecDepth 100000 in
theorem bk_any (g : Nat) (l : List Int) (w : World) (hH : w.heap[g]? = some (.cells (hcells l) 104 (0, 0))) (hl : l.length = 7424) :
  Calls Try.prog 55 #[.pointer (some ⟨g, 0, none⟩)] w fun e w' => ∃ v0_ : Value, e = .returned v0_ ∧ Kd.R k70 70 w' w.heap.size (fun _ => True) v0_ (bks l) ∧ Below w.heap.size w w' := by
 have hinfo : (Try.prog.info? 102).map (·.size) = some (hcells l).size := by rw [info102, hcells_size, hl]
 have HH := Lib.hid hH; have HL := Lib.hid hl; have HB := mkA (Below.refl w.heap.size w); clear hH hl; go_enter Try.func55, Try.ntmps55; (go_wp2_with (refine wpList_load_row rfl _ _ rfl g rfl 104 (hcells l) (0, 0) _ HH.out Try.underlying102 rfl hinfo ?_)); clear hinfo; go_loopw [3, 4, 5, 13] (fun s _ _ i wr => ∃ j : Nat, j ≤ 7424 ∧ i = .int .i64 j ∧ Aside0 (Kd.R k70 70 wr w.heap.size (fun _ => True) s (bksTo l j)) ∧ Aside0 (Below w.heap.size w wr)) (fun _ _ _ i _ => 7424 - (intOf i).toNat)
 case atStart => exact ⟨0, Nat.zero_le _, rfl, ⟨Kd.R_nil _ _ _ _ _⟩, HB⟩
 case round =>
  clear HB; obtain ⟨j, hj, rfl, HO, HB⟩ := hrel; by_cases hlt : j < 7424
  ·have hl := HL.out
   obtain ⟨y, hy⟩ : ∃ y, l[j]? = some y := ⟨_, List.getElem?_eq_getElem zk6⟩
   have hyd : l.getD j 0 = y := by rw [List.getD, hy]; rfl
   have hidx := fun w => run_index102 l j y w hlt hy; have hd : decide ((j : Int) < 7424) = true := decide_eq_true zk6; have hln := bksTo_len l j; by_cases hp : y > 0
   ·have hp0 : decide (0 < y) = true := decide_eq_true hp
    have HY : Hid (bksTo l (j + 1) = bksTo l j ++ [(⟨(j : Int), y⟩ : S70)]) := by rw [bksTo, hyd, if_pos hp]; exact Lib.hid rfl
    have LN := mkA hln; clear hl hy hyd hln hp; (go_wp2_with ((with_reducible refine gate_builtin (b := .append) (xs := #[.tmp 19, .tmp 23]) rfl ?_); at_builtin; refine Kd.R_append k70 (w0 := w) w.heap.size rfl (.tmp 19) (.tmp 23) 23 70 (.agg #[(.int .i64 0), (.int .u64 0)]) 16 rfl Try.underlying23 info70 rfl zk47 zk6 u3 (bksTo l j) (⟨(j : Int), y⟩ : S70) [.int .i64 (j : Int), .int .u64 y] (fun _ => True) (fun _ => False) rfl rfl ?aP (fun _ hk => hk.elim) ?aF ?aO ?aB ?aS ?aL ?_; (case aP => exact k70_mkM _ _ _ (⟨(j : Int), y⟩ : S70)); (case aB => exact zk27); (case aF => exact zk125); (case aO => exact (by (with_reducible repeat (first | apply Kd.R_alloc | apply Kd.R_drewN | apply Kd.R_drew)); exact HO.out)); (case aS => exact zk25); (case aL => have := LN.out; omega); intro v128 w13 ho hb hg hat; rw [← HY.out] at ho; have n0_ := mkA (hb); have n1_ := mkA (ho); clear HB; clear HO; have HB := n0_; have HO := n1_; clear n0_ n1_; clear ho hb hg hat)); go_roundw
    case rel => exact ⟨j + 1, zk6, zk176, HO, HB⟩
    case measure => simp [intOf]; omega
   ·have hp0 : decide (0 < y) = false := decide_eq_false hp
    have HY : Hid (bksTo l (j + 1) = bksTo l j) := by rw [bksTo, hyd, if_neg hp]; exact Lib.hid rfl
    clear hl hy hyd hln hp; go_wp2; go_roundw
    case rel => exact ⟨j + 1, zk6, zk176, ⟨by rw [HY.out]; exact HO.out⟩, HB⟩
    case measure => simp [intOf]; omega
  ·have hj2 : j = 7424 := by omega
   subst hj2; clear hlt; go_wp2; go_ret
   exact ⟨_, rfl, HO.out, HB.out⟩
end Go.Proofs.Ytplgffbfepnihaa
namespace Go.Proofs.Ytplgffbfepnihaa
open Go.RowKit Go.Proofs.YtplgffbfepnihaaW.PrintWords Go.Proofs.YtplgffbfepnihaaW.PrintLast Go.Proofs.YtplgffbfepnihaaW.PrintMore Go.Proofs.Ytplgffbfepnihaa.Hi
def HS (w0 W : World) (m : List (Nat × List Int)) : Prop :=
 (∀ p ∈ m, W.heap[p.1]? = some (.cells (hcells p.2) 104 (0, 0)) ∧ w0.heap.size ≤ p.1) ∧ (m.map (·.1)).Nodup ∧ Below w0.heap.size w0 W
theorem HS.bel {w0 W : World} {m : List (Nat × List Int)} (h : HS w0 W m) : Below w0.heap.size w0 W := h.2.2
theorem HS.at_ {w0 W : World} {m : List (Nat × List Int)} (h : HS w0 W m) (i : Nat) {g : Nat} {s : List Int} (hi : m[i]? = some (g, s)) : W.heap[g]? = some (.cells (hcells s) 104 (0, 0)) ∧ w0.heap.size ≤ g :=
 h.1 _ (List.mem_of_getElem? hi)
theorem HS.below {w0 W W' : World} {m : List (Nat × List Int)} (h : HS w0 W m) (hb : Below W.heap.size W W') : HS w0 W' m :=
 ⟨fun p hp => ⟨blk_below (h.1 p hp).1 hb, (h.1 p hp).2⟩, h.2.1, h.2.2.trans (hb.mono h.2.2.size)⟩
theorem HS.put {w0 W W' : World} {m : List (Nat × List Int)} (h : HS w0 W m) (i : Nat) {g : Nat} {s s' : List Int} (hi : m[i]? = some (g, s)) (hk : KeepBut W W' g none) (hg : W'.heap[g]? = some (.cells (hcells s') 104 (0, 0))) (hB : Below w0.heap.size w0 W') : HS w0 W' (m.set i (g, s')) := by
 have hlt : i < m.length := (List.getElem?_eq_some_iff.1 hi).1
 have e : (m.set i (g, s')).map (·.1) = m.map (·.1) := by
  refine List.ext_getElem? fun j => ?_; rw [List.getElem?_map, List.getElem?_map, List.getElem?_set]; by_cases c : i = j
  ·subst c; rw [if_pos rfl, if_pos hlt, hi]; rfl
  ·rw [if_neg c]
 refine ⟨fun p hp => ?_, by rw [e]; exact h.2.1, hB⟩; obtain ⟨j, hj⟩ := List.getElem?_of_mem hp; rw [List.getElem?_set] at hj; by_cases c : i = j
 ·rw [if_pos c, if_pos zk6] at hj; obtain rfl := Option.some.inj hj; exact ⟨hg, (h.at_ i hi).2⟩
 ·rw [if_neg c] at hj
  have hm := h.1 p (List.mem_of_getElem? hj); refine ⟨hk.blk hm.1 ?_ zk56, hm.2⟩; intro c2
  have n1 : (m.map (·.1))[i]? = some g := by rw [List.getElem?_map, hi]; rfl
  have n2 : (m.map (·.1))[j]? = some g := by rw [List.getElem?_map, hj, ← c2]; rfl
  exact c ((List.getElem?_inj (by rw [List.length_map]; exact hlt) h.2.1).1 (n1.trans n2.symm))
theorem HS.add {w0 W : World} {m : List (Nat × List Int)} (h : HS w0 W m) (i : Nat) {g : Nat} {s : List Int} (hi : m[i]? = some (g, s)) (hs : hgood s = true) {v n : Int} (hv : 0 ≤ v ∧ v < 18446744073709551616) (hn : 0 ≤ n ∧ n < 18446744073709551616) :
  Calls Try.prog 45 #[.pointer (some ⟨g, 0, none⟩), .int .u64 v, .int .u64 n] W fun e w' => e = .returned (.tuple #[]) ∧ HS w0 w' (m.set i (g, hadd s (bucketN v.toNat) n)) ∧ KeepBut W w' g none :=
 (hist_Hist_Add.calls g s v n _ w0 W (h.at_ i hi) h.bel (by unfold hist_Hist_Add.f; rw [if_pos ⟨hs, hv, hn⟩])).mono fun _ _ ⟨he, hI, hB, hK⟩ => ⟨he, h.put i hi hK hI.1 hB, hK⟩
theorem HS.bks {w0 W : World} {m : List (Nat × List Int)} (h : HS w0 W m) (i : Nat) {g : Nat} {s : List Int} (hi : m[i]? = some (g, s)) (hs : hgood s = true) :
  Calls Try.prog 55 #[.pointer (some ⟨g, 0, none⟩)] W fun e w' => ∃ A c, e = .returned (.slice A (bks s).length c) ∧ (bks s).length ≤ c ∧ Kd.C k70 w' A (Go.Proofs.Ytplgffbfepnihaa.bks s).length (Go.Proofs.Ytplgffbfepnihaa.bks s) ∧ Kd.R k70 70 w' W.heap.size (fun _ => True) (.slice A (Go.Proofs.Ytplgffbfepnihaa.bks s).length c) (Go.Proofs.Ytplgffbfepnihaa.bks s) ∧ HS w0 w' m ∧ Below W.heap.size W w' :=
 (bk_any g s W (h.at_ i hi).1 ((hgood_iff _).mp hs).1).mono fun _ _ ⟨v, he, hR, hb⟩ => by
  obtain ⟨A, c, rfl, hc, hC⟩ := Kd.R_reads hR; exact ⟨A, c, he, hc, hC, hR, h.below hb, hb⟩
end Go.Proofs.Ytplgffbfepnihaa
namespace Go.Proofs.Ytplgffbfepnihaa
open Go.RowKit Go.Proofs.YtplgffbfepnihaaW.PrintWords Go.Proofs.YtplgffbfepnihaaW.PrintLast Go.Proofs.YtplgffbfepnihaaW.PrintMore Go.Proofs.Ytplgffbfepnihaa.Hi Go.Proofs.Ytplgffbfepnihaa.Gb
theorem four (w : World) (oA oB oZ oG : Obj) : ((((w.alloc oA).alloc oB).alloc oZ).alloc oG).heap[w.heap.size]? = some oA ∧ ((((w.alloc oA).alloc oB).alloc oZ).alloc oG).heap[w.heap.size + 1]? = some oB ∧
  ((((w.alloc oA).alloc oB).alloc oZ).alloc oG).heap[w.heap.size + 1 + 1]? = some oZ ∧ ((((w.alloc oA).alloc oB).alloc oZ).alloc oG).heap[w.heap.size + 1 + 1 + 1]? = some oG ∧ Below w.heap.size w ((((w.alloc oA).alloc oB).alloc oZ).alloc oG) := by
 have s1 : (w.alloc oA).heap.size = w.heap.size + 1 := zk56
 have s2 : ((w.alloc oA).alloc oB).heap.size = w.heap.size + 1 + 1 := zk56
 have s3 : (((w.alloc oA).alloc oB).alloc oZ).heap.size = w.heap.size + 1 + 1 + 1 := zk56
 refine ⟨blk_alloc (blk_alloc (blk_alloc (blk_new w _) _) _) _, ?_, ?_, ?_, ?_⟩
 ·rw [← s1]; exact blk_alloc (blk_alloc (blk_new _ _) _) _
 ·rw [← s2]; exact blk_alloc (blk_new _ _) _
 ·rw [← s3]; exact blk_new _ _
 ·exact below_alloc (below_alloc (below_alloc (below_alloc (Below.refl _ _) _) _) _) _
set_option maxHeartbeats 4000000 in
set_option maxRecDepth 100000 in
theorem gmerge_any (a0 a1 a2 a3 b0 b1 b2 b3 : Int) (w : World) (ha0 : 0 ≤ a0 ∧ a0 < 18446744073709551616) (ha1 : 0 ≤ a1 ∧ a1 < 18446744073709551616) (hb0 : 0 ≤ b0 ∧ b0 < 18446744073709551616) (hb1 : 0 ≤ b1 ∧ b1 < 18446744073709551616)
  (z y l1 l2 : Bool) (hz : (a0 == 0) = z) (hy : (b0 == 0) = y) (h1 : flo_Less.f b2 a2 = some l1) (h2 : flo_Less.f a3 b3 = some l2) :
  Calls Try.prog 83 #[.agg #[.int .u64 a0, .int .u64 a1, .int .u64 a2, .int .u64 a3], .agg #[.int .u64 b0, .int .u64 b1, .int .u64 b2, .int .u64 b3]] w fun e w' =>
   e = .returned (.agg #[.int .u64 (hold (a0 + b0)), .int .u64 (hold (a1 + b1)), .int .u64 (if z then b2 else if y then a2 else if l1 then b2 else a2), .int .u64 (if z then b3 else if y then a3 else if l2 then b3 else a3)]) ∧ Below w.heap.size w w' := by
 have A1 := fun w => add_eq a1 b1 w ha1.1 ha1.2 hb1.1 hb1.2; have A0 := fun w => add_eq a0 b0 w ha0.1 ha0.2 hb0.1 hb0.2; have L1 := fun w => flo_Less.calls b2 a2 l1 w h1; have L2 := fun w => flo_Less.calls a3 b3 l2 w h2; obtain ⟨p, hp⟩ : ∃ p, (if a0 + b0 < 18446744073709551616 then a0 + b0 else 18446744073709551615) = p := ⟨_, rfl⟩
 obtain ⟨q, hq⟩ : ∃ q, (if a1 + b1 < 18446744073709551616 then a1 + b1 else 18446744073709551615) = q := ⟨_, rfl⟩
 have HPP := Lib.hid (show hold (a0 + b0) = p from hp); have HQQ := Lib.hid (show hold (a1 + b1) = q from hq); rw [hp] at A0; rw [hq] at A1; rw [HPP.out, HQQ.out]; clear hp hq ha0 ha1 hb0 hb1 h1 h2; cases z
 ·go_enter Try.func83, Try.ntmps83
  go_wp2; refine name_world _ (fun WW HW => ?_); have F := four w (.cells #[.int .u64 a0, .int .u64 a1, .int .u64 a2, .int .u64 a3] 43) (.cells #[.int .u64 b0, .int .u64 b1, .int .u64 b2, .int .u64 b3] 43) (.cells #[.int .u64 0, .int .u64 0, .int .u64 0, .int .u64 0] 43) (.cells #[.int .u64 a0, .int .u64 a1, .int .u64 a2, .int .u64 a3] 43); rw [HW.out] at F; obtain ⟨bA, bB, bR, bG, bL⟩ := F; refine wp_region_still_tail 11 zk11 zk11 ?_; simp only [List.take_succ_cons, List.take_zero, List.drop_succ_cons, List.drop_zero]; change wpStill _ _ WW.drew _ _ _; replace bA := blk_drew bA; replace bB := blk_drew bB; replace bR := blk_drew bR; replace bG := blk_drew bG; replace bL := below_drew bL; obtain ⟨W2, hW2⟩ : ∃ W2, WW.drew = W2 := ⟨_, rfl⟩
  rw [hW2] at bA bB bR bG bL ⊢; have HW2 := Lib.hid hW2; clear hW2 HW; have c0 := blk_cell bA 0; have c1 := blk_cell bA 1; have c2 := blk_cell bA 2; have c3 := blk_cell bA 3; have d0 := blk_cell bB 0; have d1 := blk_cell bB 1; have d2 := blk_cell bB 2; have d3 := blk_cell bB 3; have g0 := blk_cell bG 0; have g1 := blk_cell bG 1; have g2 := blk_cell bG 2; have g3 := blk_cell bG 3; have r0 := blk_cell bR 0; have r1 := blk_cell bR 1; have r2 := blk_cell bR 2; have r3 := blk_cell bR 3; have fg0 := blk_frozen bG 0; have fg1 := blk_frozen bG 1; have fg2 := blk_frozen bG 2; have fg3 := blk_frozen bG 3; have fr0 := blk_frozen bR 0; have fr1 := blk_frozen bR 1; have fr2 := blk_frozen bR 2; have fr3 := blk_frozen bR 3; have HG := Lib.hid bG; have HR := Lib.hid bR; have HBL := Lib.hid bL; clear bA bB bG bR bL
  still_step
  still_step
  still_step
  still_step
  still_call ((A1 W2).mono fun _ _ ⟨he, hw⟩ => ⟨he, hw.symm⟩)
  still_step
  still_step
  still_step
  still_step
  still_call ((A0 W2).mono fun _ _ ⟨he, hw⟩ => ⟨he, hw.symm⟩)
  still_step
  refine wpStill_nil ?_; change wpList _ _ _ _ _ WW.drew; rw [HW2.out]; clear A0 A1; cases y
  ·cases l1
   ·cases l2
    ·go_wp2_with (first
      | (go_at_call 90; refine (L1 _).mono ?_; rintro e w1 ⟨rfl, ⟨n1, rfl⟩⟩; clear L1)
      | (go_at_call 90; refine (L2 _).mono ?_; rintro e w1 ⟨rfl, ⟨n2, rfl⟩⟩; clear L2))
     refine bodyPost_ret (results_cell_row rfl _ _ (w.heap.size + 1 + 1) 43 #[.int .u64 p, .int .u64 q, .int .u64 a2, .int .u64 a3] (0, 0) _ rfl zk23 Try.underlying43 rfl zk11) rfl ⟨rfl, ?_⟩; (repeat (first | (with_reducible exact HBL.out) | (with_reducible refine pw_below_drewN ?_ _) | (with_reducible refine below_drew ?_) | (with_reducible refine below_set ?_ zk6)))
    ·go_wp2_with (first
      | (go_at_call 90; refine (L1 _).mono ?_; rintro e w1 ⟨rfl, ⟨n1, rfl⟩⟩; clear L1)
      | (go_at_call 90; refine (L2 _).mono ?_; rintro e w1 ⟨rfl, ⟨n2, rfl⟩⟩; clear L2))
     refine bodyPost_ret (results_cell_row rfl _ _ (w.heap.size + 1 + 1) 43 #[.int .u64 p, .int .u64 q, .int .u64 a2, .int .u64 b3] (0, 0) _ rfl zk23 Try.underlying43 rfl zk11) rfl ⟨rfl, ?_⟩; (repeat (first | (with_reducible exact HBL.out) | (with_reducible refine pw_below_drewN ?_ _) | (with_reducible refine below_drew ?_) | (with_reducible refine below_set ?_ zk6)))
   ·cases l2
    ·go_wp2_with (first
      | (go_at_call 90; refine (L1 _).mono ?_; rintro e w1 ⟨rfl, ⟨n1, rfl⟩⟩; clear L1)
      | (go_at_call 90; refine (L2 _).mono ?_; rintro e w1 ⟨rfl, ⟨n2, rfl⟩⟩; clear L2))
     refine bodyPost_ret (results_cell_row rfl _ _ (w.heap.size + 1 + 1) 43 #[.int .u64 p, .int .u64 q, .int .u64 b2, .int .u64 a3] (0, 0) _ rfl zk24 Try.underlying43 rfl zk11) rfl ⟨rfl, ?_⟩; (repeat (first | (with_reducible exact HBL.out) | (with_reducible refine pw_below_drewN ?_ _) | (with_reducible refine below_drew ?_) | (with_reducible refine below_set ?_ zk6)))
    ·go_wp2_with (first
      | (go_at_call 90; refine (L1 _).mono ?_; rintro e w1 ⟨rfl, ⟨n1, rfl⟩⟩; clear L1)
      | (go_at_call 90; refine (L2 _).mono ?_; rintro e w1 ⟨rfl, ⟨n2, rfl⟩⟩; clear L2))
     refine bodyPost_ret (results_cell_row rfl _ _ (w.heap.size + 1 + 1) 43 #[.int .u64 p, .int .u64 q, .int .u64 b2, .int .u64 b3] (0, 0) _ rfl zk24 Try.underlying43 rfl zk11) rfl ⟨rfl, ?_⟩; (repeat (first | (with_reducible exact HBL.out) | (with_reducible refine pw_below_drewN ?_ _) | (with_reducible refine below_drew ?_) | (with_reducible refine below_set ?_ zk6)))
  ·go_wp2; refine bodyPost_ret (results_cell_row rfl _ _ (w.heap.size + 1 + 1) 43 #[.int .u64 p, .int .u64 q, .int .u64 a2, .int .u64 a3] (0, 0) _ rfl zk23 Try.underlying43 rfl zk11) rfl ⟨rfl, ?_⟩; (repeat (first | (with_reducible exact HBL.out) | (with_reducible refine pw_below_drewN ?_ _) | (with_reducible refine below_drew ?_) | (with_reducible refine below_set ?_ zk6)))
 ·go_enter Try.func83, Try.ntmps83
  go_wp2; refine name_world _ (fun WW HW => ?_); have F := four w (.cells #[.int .u64 a0, .int .u64 a1, .int .u64 a2, .int .u64 a3] 43) (.cells #[.int .u64 b0, .int .u64 b1, .int .u64 b2, .int .u64 b3] 43) (.cells #[.int .u64 0, .int .u64 0, .int .u64 0, .int .u64 0] 43) (.cells #[.int .u64 b0, .int .u64 b1, .int .u64 b2, .int .u64 b3] 43); rw [HW.out] at F; obtain ⟨bA, bB, bR, bG, bL⟩ := F; refine wp_region_still_tail 11 zk11 zk11 ?_; simp only [List.take_succ_cons, List.take_zero, List.drop_succ_cons, List.drop_zero]; change wpStill _ _ WW.drew _ _ _; replace bA := blk_drew bA; replace bB := blk_drew bB; replace bR := blk_drew bR; replace bG := blk_drew bG; replace bL := below_drew bL; obtain ⟨W2, hW2⟩ : ∃ W2, WW.drew = W2 := ⟨_, rfl⟩
  rw [hW2] at bA bB bR bG bL ⊢; have HW2 := Lib.hid hW2; clear hW2 HW; have c0 := blk_cell bA 0; have c1 := blk_cell bA 1; have c2 := blk_cell bA 2; have c3 := blk_cell bA 3; have d0 := blk_cell bB 0; have d1 := blk_cell bB 1; have d2 := blk_cell bB 2; have d3 := blk_cell bB 3; have g0 := blk_cell bG 0; have g1 := blk_cell bG 1; have g2 := blk_cell bG 2; have g3 := blk_cell bG 3; have r0 := blk_cell bR 0; have r1 := blk_cell bR 1; have r2 := blk_cell bR 2; have r3 := blk_cell bR 3; have fg0 := blk_frozen bG 0; have fg1 := blk_frozen bG 1; have fg2 := blk_frozen bG 2; have fg3 := blk_frozen bG 3; have fr0 := blk_frozen bR 0; have fr1 := blk_frozen bR 1; have fr2 := blk_frozen bR 2; have fr3 := blk_frozen bR 3; have HG := Lib.hid bG; have HR := Lib.hid bR; have HBL := Lib.hid bL; clear bA bB bG bR bL
  still_step
  still_step
  still_step
  still_step
  still_call ((A1 W2).mono fun _ _ ⟨he, hw⟩ => ⟨he, hw.symm⟩)
  still_step
  still_step
  still_step
  still_step
  still_call ((A0 W2).mono fun _ _ ⟨he, hw⟩ => ⟨he, hw.symm⟩)
  still_step
  refine wpStill_nil ?_; change wpList _ _ _ _ _ WW.drew; rw [HW2.out]; clear A0 A1; go_wp2; refine bodyPost_ret (results_cell_row rfl _ _ (w.heap.size + 1 + 1) 43 #[.int .u64 p, .int .u64 q, .int .u64 b2, .int .u64 b3] (0, 0) _ rfl zk24 Try.underlying43 rfl zk11) rfl ⟨rfl, ?_⟩; (repeat (first | (with_reducible exact HBL.out) | (with_reducible refine pw_below_drewN ?_ _) | (with_reducible refine below_drew ?_) | (with_reducible refine below_set ?_ zk6)))
end Go.Proofs.Ytplgffbfepnihaa
namespace Go.Proofs.Ytplgffbfepnihaa.Pure
open Go.RowKit Go.Proofs.Ytplgffbfepnihaa.Hi
theorem h_ext {s t : List Int} (hs : s.length = 7424) (ht : t.length = 7424) (h : ∀ i, i < 7424 → s.getD i 0 = t.getD i 0) : s = t := by
 refine List.ext_getElem zk6 fun i h1 h2 => ?_; have := h i zk6
 rwa [List.getD, List.getElem?_eq_getElem h1, List.getD, List.getElem?_eq_getElem h2] at this
theorem wf_u64 {x : Int} (h0 : 0 ≤ x) (h1 : x < 18446744073709551616) : (Lit.int .u64 x).wf = true := by
 rw [Lit.wf_int_iff]; simp [IntKind.min, IntKind.max, IntKind.bits, IntKind.signed]; omega
theorem good_len {s : List Int} (h : hgood s = true) : s.length = 7424 := ((hgood_iff _).mp h).1
theorem good_get {s : List Int} (h : hgood s = true) (i : Nat) : 0 ≤ s.getD i 0 ∧ s.getD i 0 < 18446744073709551616 := getD_range ((hgood_iff _).mp h).2 i
def Bok (l : List S70) : Prop := ∀ b ∈ l, 0 ≤ b.f0 ∧ b.f0 < 7424 ∧ 0 ≤ b.f1 ∧ b.f1 < 18446744073709551616
theorem merged_good_of {l : List S70} (h : Bok l) : ∀ {s : List Int}, hgood s = true → hgood (merged s l) = true := by
 induction l with
 | nil => intro s hs; exact hs
 | cons b l ih => intro s hs; exact ih (fun x hx => h x (by simp [hx])) (hadd_good hs _ _ (h b zk56).2.2.1)
theorem chk_ok : ∀ (l : List S70) (last : Int), -1 ≤ last → chkFrom last l = true → ∀ b ∈ l, last < b.f0 ∧ b.f0 < 7424 ∧ b.f1 ≠ 0 := by
 intro l
 induction l with
 | nil => intro last _ _ b hb; simp at hb
 | cons c l ih =>
  intro last h0 h b hb; simp only [chkFrom, Bool.and_eq_true, decide_eq_true_eq, Bool.not_eq_true', beq_eq_false_iff_ne] at h; obtain ⟨c1, c2, c3, c4⟩ := h
  rcases List.mem_cons.1 hb with rfl | hb
  ·exact ⟨c1, c2, c3⟩
  ·have := ih c.f0 zk6 c4 b hb; exact ⟨zk6, this.2⟩
theorem bksTo_ok {s : List Int} (hs : hgood s = true) : ∀ n, n ≤ 7424 → ∀ b ∈ bksTo s n, 0 ≤ b.f0 ∧ b.f0 < n ∧ 1 ≤ b.f1 ∧ b.f1 < 18446744073709551616 := by
 intro n
 induction n with
 | zero => intro _ b hb; simp [bksTo] at hb
 | succ n ih =>
  intro hn b hb; have g := good_get hs n; unfold bksTo at hb; split at hb
  ·rcases List.mem_append.1 hb with hb | hb
   ·have := ih zk6 b hb; omega
   ·rw [List.mem_singleton] at hb; subst hb; exact ⟨by show 0 ≤ (n : Int); omega, by show (n : Int) < _; omega, by show 1 ≤ s.getD n 0; omega, g.2⟩
  ·have := ih zk6 b hb; omega
theorem bks_Bok {s : List Int} (hs : hgood s = true) : Bok (bks s) := fun b hb => by
 have := bksTo_ok hs 7424 (Nat.le_refl _) b hb; exact ⟨this.1, zk6, zk6, this.2.2.2⟩
theorem chkFrom_snoc (b : S70) : ∀ (l : List S70) (last : Int), (∀ x ∈ l, x.f0 < b.f0) → last < b.f0 → b.f0 < 7424 → b.f1 ≠ 0 → chkFrom last l = true → chkFrom last (l ++ [b]) = true := by
 intro l
 induction l with
 | nil =>
  intro last _ h1 h2 h3 _; simp only [List.nil_append, chkFrom, Bool.and_eq_true, decide_eq_true_eq, Bool.not_eq_true', beq_eq_false_iff_ne]; exact ⟨h1, h2, h3, trivial⟩
 | cons c l ih =>
  intro last hx h1 h2 h3 h; simp only [List.cons_append, chkFrom, Bool.and_eq_true, decide_eq_true_eq, Bool.not_eq_true', beq_eq_false_iff_ne] at h ⊢; obtain ⟨c1, c2, c3, c4⟩ := h; exact ⟨c1, c2, c3, ih c.f0 (fun x hx' => hx x (by simp [hx'])) (hx c zk56) h2 h3 c4⟩
theorem bksTo_chk {s : List Int} (hs : hgood s = true) : ∀ n, n ≤ 7424 → chkFrom (-1) (bksTo s n) = true := by
 intro n
 induction n with
 | zero => intro _; rfl
 | succ n ih =>
  intro hn; unfold bksTo; split
  ·refine chkFrom_snoc _ _ _ (fun x hx => ?_) (by show -1 < (n : Int); omega) (by show (n : Int) < 7424; omega) (by show s.getD n 0 ≠ 0; omega) (ih zk6); exact (bksTo_ok hs n zk6 x hx).2.1
  ·exact ih zk6
theorem bks_chk {s : List Int} (hs : hgood s = true) : chk (bks s) = true := bksTo_chk hs 7424 (Nat.le_refl _)
theorem merged_snoc (s : List Int) (l : List S70) (b : S70) : merged s (l ++ [b]) = hadd (merged s l) b.f0.toNat b.f1 := by
 simp [merged, List.foldl_append]
theorem merged_bksTo {s : List Int} (hs : hgood s = true) : ∀ n, n ≤ 7424 → ∀ i, (merged (hzero 7424) (bksTo s n)).getD i 0 = if i < n then s.getD i 0 else 0 := by
 intro n
 induction n with
 | zero => intro _ i; rw [if_neg zk6]; exact hzero_getD i
 | succ n ih =>
  intro hn i; have g := good_get hs n; have hl : (merged (hzero 7424) (bksTo s n)).length = 7424 := good_len (merged_good_of (fun b hb => by have := bksTo_ok hs n zk6 b hb; exact ⟨this.1, zk6, zk6, this.2.2.2⟩) hzero_good); unfold bksTo; split
  ·rw [merged_snoc, show ((⟨(n : Int), s.getD n 0⟩ : S70).f0).toNat = n from Int.toNat_natCast n, hadd_getD _ _ _ _ zk6, ih zk6 n, if_neg (Nat.lt_irrefl n), Int.zero_add]
   by_cases c : i = n
   ·rw [if_pos c, if_pos zk6, c]; exact if_pos g.2
   ·rw [if_neg c, ih zk6]
    by_cases d : i < n
    ·rw [if_pos d, if_pos zk6]
    ·rw [if_neg d, if_neg zk6]
  ·rw [ih zk6]
   by_cases d : i < n
   ·rw [if_pos d, if_pos zk6]
   ·rw [if_neg d]
    by_cases c : i = n
    ·rw [if_pos zk6, c]; omega
    ·rw [if_neg zk6]
theorem merged_bks {s : List Int} (hs : hgood s = true) : merged (hzero 7424) (bks s) = s :=
 h_ext (good_len (merged_good_of (bks_Bok hs) hzero_good)) (good_len hs) fun i hi => by
  have := merged_bksTo hs 7424 (Nat.le_refl _) i
  rwa [if_pos hi] at this
end Go.Proofs.Ytplgffbfepnihaa.Pure
namespace Go.Proofs.Ytplgffbfepnihaa.Pure
open Go.RowKit Go.Proofs.Ytplgffbfepnihaa.Hi Go.Proofs.YtplgffbfepnihaaW.PrintWords Go.Proofs.YtplgffbfepnihaaW.PrintLast
theorem chk_cons {last : Int} {b : S70} {l : List S70} : chkFrom last (b :: l) = true ↔ last < b.f0 ∧ b.f0 < 7424 ∧ b.f1 ≠ 0 ∧ chkFrom b.f0 l = true := by
 simp only [chkFrom, Bool.and_eq_true, decide_eq_true_eq, Bool.not_eq_true', beq_eq_false_iff_ne]
def look : List S70 → Int → Int
 | [], _ => 0
 | b :: r, i => if b.f0 = i then b.f1 else look r i
theorem look_low : ∀ {l : List S70} {last : Int}, chkFrom last l = true → ∀ i, i ≤ last → look l i = 0 := by
 intro l
 induction l with
 | nil => intro _ _ _ _; rfl
 | cons b l ih =>
  intro last h i hi; obtain ⟨c1, c2, c3, c4⟩ := chk_cons.mp h; show (if b.f0 = i then b.f1 else look l i) = 0; rw [if_neg zk6]; exact ih c4 i zk6
theorem look_high : ∀ {l : List S70} {last : Int}, chkFrom last l = true → ∀ i, 7424 ≤ i → look l i = 0 := by
 intro l
 induction l with
 | nil => intro _ _ _ _; rfl
 | cons b l ih =>
  intro last h i hi; obtain ⟨c1, c2, c3, c4⟩ := chk_cons.mp h; show (if b.f0 = i then b.f1 else look l i) = 0; rw [if_neg zk6]; exact ih c4 i hi
theorem look_mem : ∀ {l : List S70} {last : Int}, chkFrom last l = true → ∀ b ∈ l, look l b.f0 = b.f1 := by
 intro l
 induction l with
 | nil => intro _ _ b hb; simp at hb
 | cons c l ih =>
  intro last h b hb; obtain ⟨c1, c2, c3, c4⟩ := chk_cons.mp h; show (if c.f0 = b.f0 then c.f1 else look l b.f0) = b.f1
  rcases List.mem_cons.1 hb with rfl | hb
  ·rw [if_pos rfl]
  ·have := (chk_sorted l c.f0 c4 b hb).1; rw [if_neg zk6]; exact ih c4 b hb
theorem look_none : ∀ {l : List S70} (i : Int), (∀ b ∈ l, b.f0 ≠ i) → look l i = 0 := by
 intro l
 induction l with
 | nil => intro _ _; rfl
 | cons b l ih =>
  intro i h; show (if b.f0 = i then b.f1 else look l i) = 0; rw [if_neg (h b zk56)]; exact ih i (fun x hx => h x (by simp [hx]))
theorem look_ext : ∀ {l l' : List S70} {last : Int}, chkFrom last l = true → chkFrom last l' = true → (∀ i, last < i → look l i = look l' i) → l = l' := by
 intro l
 induction l with
 | nil =>
  intro l' last _ h' he
  cases l' with
  | nil => rfl
  | cons b r =>
   obtain ⟨c1, c2, c3, c4⟩ := chk_cons.mp h'; have := he b.f0 c1; have e : look (b :: r) b.f0 = b.f1 := if_pos rfl; rw [e] at this; exact absurd this.symm c3
 | cons a r ih =>
  intro l' last h h' he; obtain ⟨a1, a2, a3, a4⟩ := chk_cons.mp h
  cases l' with
  | nil =>
   have := he a.f0 a1; have e : look (a :: r) a.f0 = a.f1 := if_pos rfl; rw [e] at this; exact absurd this a3
  | cons b r' =>
   obtain ⟨b1, b2, b3, b4⟩ := chk_cons.mp h'; have ea : look (a :: r) a.f0 = a.f1 := if_pos rfl; have eb : look (b :: r') b.f0 = b.f1 := if_pos rfl; have ha := he a.f0 a1; have hb := he b.f0 b1; rw [ea] at ha; rw [eb] at hb
   have h0 : a.f0 = b.f0 := by
    rcases Int.lt_trichotomy a.f0 b.f0 with c | c | c
    ·have e : look (b :: r') a.f0 = look r' a.f0 := if_neg zk6; rw [e, look_low b4 _ zk6] at ha; exact absurd ha a3
    ·exact c
    ·have e : look (a :: r) b.f0 = look r b.f0 := if_neg zk6; rw [e, look_low a4 _ zk6] at hb; exact absurd hb.symm b3
   have h1 : a.f1 = b.f1 := by rw [ha, h0, eb]
   have hab : a = b := by cases a; cases b; simp at h0 h1; rw [h0, h1]
   subst hab; congr 1; refine ih a4 b4 fun i hi => ?_; have := he i zk6; have e1 : look (a :: r) i = look r i := if_neg zk6; have e2 : look (a :: r') i = look r' i := if_neg zk6
   rwa [e1, e2] at this
theorem merged_look {l : List S70} (hb : Bok l) (hc : chk l = true) (i : Nat) : (merged (hzero 7424) l).getD i 0 = look l (i : Int) := by
 obtain ⟨_, _, h3, h4⟩ := merged_spec l (hzero 7424) (-1) hzero_good zk6 hc (fun b hm => wf_u64 (hb b hm).2.2.1 (hb b hm).2.2.2) (fun i _ => hzero_getD i); by_cases c : ∀ b ∈ l, b.f0 ≠ (i : Int)
 ·rw [h4 i zk6 c, look_none _ c]
 ·have : ∃ b, b ∈ l ∧ b.f0 = (i : Int) := by
   refine Classical.byContradiction fun h => c fun b hb he => h ⟨b, hb, he⟩
  obtain ⟨b, hm, he⟩ := this; have e1 := (h3 b hm).2.2.2; rw [he, Int.toNat_natCast] at e1; rw [e1, ← he, look_mem hc b hm]
theorem look_bks {s : List Int} (hs : hgood s = true) (i : Nat) : look (bks s) (i : Int) = s.getD i 0 := by
 rw [← merged_look (bks_Bok hs) (bks_chk hs), merged_bks hs]
theorem bks_of {s : List Int} (hs : hgood s = true) {l : List S70} (hc : chk l = true) (h : ∀ i : Nat, i < 7424 → look l (i : Int) = s.getD i 0) : l = bks s := by
 refine look_ext hc (bks_chk hs) fun i hi => ?_; by_cases c : i < 7424
 ·obtain ⟨n, rfl⟩ : ∃ n : Nat, i = n := ⟨i.toNat, zk6⟩
  rw [h n zk6, look_bks hs]
 ·rw [look_high hc _ zk6, look_high (bks_chk hs) _ zk6]
theorem bks_merged {l : List S70} (hb : Bok l) (hc : chk l = true) : bks (merged (hzero 7424) l) = l :=
 (bks_of (merged_good_of hb hzero_good) hc fun i _ => (merged_look hb hc i).symm).symm
def insB (b v : Int) : List S70 → List S70
 | [] => [⟨b, v⟩]
 | x :: r => if x.f0 = b then ⟨b, hold (x.f1 + v)⟩ :: r else if x.f0 > b then ⟨b, v⟩ :: x :: r else x :: insB b v r
theorem hold_ne {x : Int} (h : 1 ≤ x) : hold x ≠ 0 := by unfold hold; split <;> omega
theorem insB_chk (b v : Int) (hb : b < 7424) (hv : 1 ≤ v) : ∀ (l : List S70) (last : Int), last < b → (∀ x ∈ l, 0 ≤ x.f1) → chkFrom last l = true → chkFrom last (insB b v l) = true := by
 intro l
 induction l with
 | nil => intro last h _ _; exact chk_cons.mpr ⟨h, hb, by show v ≠ 0; omega, rfl⟩
 | cons x r ih =>
  intro last h hn hc; obtain ⟨c1, c2, c3, c4⟩ := chk_cons.mp hc; have := hn x zk56; unfold insB; split
  ·rename_i e; exact chk_cons.mpr ⟨h, hb, hold_ne zk6, by rw [e] at c4; exact c4⟩
  ·split
   ·rename_i e; exact chk_cons.mpr ⟨h, hb, by show v ≠ 0; omega, chk_cons.mpr ⟨by show b < _; omega, c2, c3, c4⟩⟩
   ·exact chk_cons.mpr ⟨c1, c2, c3, ih x.f0 zk6 (fun y hy => hn y (by simp [hy])) c4⟩
theorem insB_look (b v : Int) (hv : 0 ≤ v ∧ v < 18446744073709551616) : ∀ (l : List S70) (last : Int), chkFrom last l = true → ∀ i, look (insB b v l) i = if i = b then hold (look l b + v) else look l i := by
 intro l; have hv' : hold (0 + v) = v := by unfold hold; rw [if_pos zk6]; omega
 induction l with
 | nil =>
  intro last _ i; show (if b = i then v else 0) = if i = b then hold (0 + v) else 0
  rw [hv']; by_cases c : i = b
  ·rw [if_pos c.symm, if_pos c]
  ·rw [if_neg (fun h => c h.symm), if_neg c]
 | cons x r ih =>
  intro last hc i; obtain ⟨c1, c2, c3, c4⟩ := chk_cons.mp hc; unfold insB; by_cases e1 : x.f0 = b
  ·rw [if_pos e1]
   show (if b = i then hold (x.f1 + v) else look r i) = if i = b then hold ((if x.f0 = b then x.f1 else look r b) + v) else (if x.f0 = i then x.f1 else look r i)
   rw [if_pos e1]; by_cases c : i = b
   ·rw [if_pos c.symm, if_pos c]
   ·rw [if_neg (fun h => c h.symm), if_neg c, if_neg zk6]
  ·rw [if_neg e1]
   by_cases e2 : x.f0 > b
   ·rw [if_pos e2]
    show (if b = i then v else (if x.f0 = i then x.f1 else look r i)) = if i = b then hold ((if x.f0 = b then x.f1 else look r b) + v) else (if x.f0 = i then x.f1 else look r i)
    rw [if_neg e1, look_low c4 b zk6, hv']; by_cases c : i = b
    ·rw [if_pos c.symm, if_pos c]
    ·rw [if_neg (fun h => c h.symm), if_neg c]
   ·rw [if_neg e2]
    show (if x.f0 = i then x.f1 else look (insB b v r) i) = if i = b then hold ((if x.f0 = b then x.f1 else look r b) + v) else (if x.f0 = i then x.f1 else look r i)
    rw [ih x.f0 c4 i, if_neg e1]; by_cases c : i = b
    ·rw [if_neg zk6, if_pos c, if_pos c]
    ·rw [if_neg c, if_neg c]
theorem bks_add {s : List Int} (hs : hgood s = true) (b : Nat) (hb : b < 7424) (v : Int) (hv : 1 ≤ v ∧ v < 18446744073709551616) : insB b v (bks s) = bks (hadd s b v) := by
 have hk := bks_Bok hs; have g := hadd_good hs b v zk6; refine bks_of g (insB_chk b v zk6 hv.1 _ (-1) zk6 (fun x hx => (hk x hx).2.2.1) (bks_chk hs)) fun i hi => ?_; rw [insB_look b v ⟨zk6, hv.2⟩ _ (-1) (bks_chk hs), look_bks hs, look_bks hs, hadd_getD s b i v (by have := good_len hs; omega)]; by_cases c : i = b
 ·rw [if_pos zk6, if_pos c]
 ·rw [if_neg zk6, if_neg c]
end Go.Proofs.Ytplgffbfepnihaa.Pure
namespace Go.Proofs.Ytplgffbfepnihaa.Ga
open Go.RowKit Go.Proofs.YtplgffbfepnihaaW.PrintWords Go.Proofs.YtplgffbfepnihaaW.PrintLast Go.Proofs.YtplgffbfepnihaaW.PrintMore Go.Proofs.Ytplgffbfepnihaa.Hi Go.Proofs.Ytplgffbfepnihaa.Q Go.Proofs.Ytplgffbfepnihaa.Gb
theorem info41 : (Try.prog.info? 41).map (fun i => (i.zero, i.size, i.bytes)) = some (some (.int .u64 0), 1, 8) := by kernel_rfl
structure S81 where
 f0 : Int
 f1 : ByteArray
 f2 : Int
def z81 : S81 := ⟨(0 : Int), (⟨#[]⟩ : ByteArray), (0 : Int)⟩
def k81 : Kd S81 := Kd.iso (Kd.pair (Kd.int .u64) (Kd.pair Kd.string (Kd.int .u64))) (fun x : S81 => (x.f0, x.f1, x.f2))
theorem k81_open {w : World} {x : S81} {cs : List Value} (h : k81.K w x cs) : cs = [.int .u64 x.f0, .string x.f1, .int .u64 x.f2] := by
 obtain ⟨_, _, rfl, rfl, ⟨_, _, rfl, rfl, rfl⟩⟩ := h; exact rfl
theorem k81_mk (w : World) (x : S81)  : k81.K w x [.int .u64 x.f0, .string x.f1, .int .u64 x.f2] := ⟨[.int .u64 x.f0], [.string x.f1, .int .u64 x.f2], rfl, rfl, ⟨[.string x.f1], [.int .u64 x.f2], rfl, rfl, rfl⟩⟩
def rd_T81 (xs : List S81) (i : Int) : S81 := xs.getD i.toNat z81
theorem at_T81 {w : World} {A : Option Addr} {n : Nat} {xs : List S81} (h : Kd.C k81 w A n xs) (i : Int) (h0 : 0 ≤ i) (h1 : i < n) : ∃ ad , A = some ad ∧ w.cell? (ad.add (i.toNat * 3)) = some (.int .u64 (rd_T81 xs i).f0) ∧ w.cell? ⟨(ad.add (i.toNat * 3)).block, (ad.add (i.toNat * 3)).off + 1, none⟩ = some (.string (rd_T81 xs i).f1) ∧ w.cell? ⟨(ad.add (i.toNat * 3)).block, (ad.add (i.toNat * 3)).off + 2, none⟩ = some (.int .u64 (rd_T81 xs i).f2) := by
 obtain ⟨ad, c, e, _, hK, hc0⟩ := Kd.C_get h z81 i h0 h1; have hc : ∀ j u, c[j]? = some u → w.cell? (ad.add (i.toNat * 3 + j)) = some u := hc0; obtain rfl := k81_open hK; exact ⟨ad, e, hc 0 _ rfl, by rw [← add_field _ _ 1 zk6]; exact hc 1 _ rfl, by rw [← add_field _ _ 2 zk6]; exact hc 2 _ rfl⟩
end Go.Proofs.Ytplgffbfepnihaa.Ga
namespace Go.Proofs.Ytplgffbfepnihaa.Ga
open Go.RowKit Go.Proofs.YtplgffbfepnihaaW.PrintWords Go.Proofs.YtplgffbfepnihaaW.PrintLast Go.Proofs.YtplgffbfepnihaaW.PrintMore Go.Proofs.Ytplgffbfepnihaa.Hi Go.Proofs.Ytplgffbfepnihaa.Q Go.Proofs.Ytplgffbfepnihaa.Gb
theorem eqA43 (d : Nat) (w : World) (x0 y0 : Int) (x1 y1 : Int) (x2 y2 : Int) (x3 y3 : Int) :
  (Op.equalIn (d + 2) 43 (.agg #[.int .u64 x0, .int .u64 x1, .int .u64 x2, .int .u64 x3]) (.agg #[.int .u64 y0, .int .u64 y1, .int .u64 y2, .int .u64 y3])).run Try.prog w = .ok (x0 == y0 && (x1 == y1 && (x2 == y2 && (x3 == y3)))) w := by
 refine eqA_of Try.underlying43 zk11 ?_; refine eqf_cons zk50 zk184 zk184 (by go_simp) ?_; refine eqf_cons zk50 zk184 zk184 (by go_simp) ?_; refine eqf_cons zk50 zk184 zk184 (by go_simp) ?_; exact eqf_last zk50 zk184 zk184 (by go_simp)
end Go.Proofs.Ytplgffbfepnihaa.Ga
namespace Go.Proofs.Ytplgffbfepnihaa.Ga
open Go.RowKit Go.Proofs.YtplgffbfepnihaaW.PrintWords Go.Proofs.YtplgffbfepnihaaW.PrintLast Go.Proofs.YtplgffbfepnihaaW.PrintMore Go.Proofs.Ytplgffbfepnihaa.Hi Go.Proofs.Ytplgffbfepnihaa.Q Go.Proofs.Ytplgffbfepnihaa.Gb
theorem eqA70 (d : Nat) (w : World) (x0 y0 : Int) (x1 y1 : Int) :
  (Op.equalIn (d + 2) 70 (.agg #[.int .i64 x0, .int .u64 x1]) (.agg #[.int .i64 y0, .int .u64 y1])).run Try.prog w = .ok (x0 == y0 && (x1 == y1)) w := by
 refine eqA_of Try.underlying70 zk11 ?_; refine eqf_cons zk50 zk184 zk184 (by go_simp) ?_; exact eqf_last zk50 zk184 zk184 (by go_simp)
end Go.Proofs.Ytplgffbfepnihaa.Ga
namespace Go.Proofs.Ytplgffbfepnihaa.Ga
open Go.RowKit Go.Proofs.YtplgffbfepnihaaW.PrintWords Go.Proofs.YtplgffbfepnihaaW.PrintLast Go.Proofs.YtplgffbfepnihaaW.PrintMore Go.Proofs.Ytplgffbfepnihaa.Hi Go.Proofs.Ytplgffbfepnihaa.Q Go.Proofs.Ytplgffbfepnihaa.Gb
attribute [local go_sem high] eqA43
def gauge_none.f (a0 : Int) : Option (Bool) := if 0 ≤ a0 ∧ a0 < 18446744073709551616 then some (nanB a0) else none
theorem gauge_none.calls (a0 : Int) (r : Bool) (w : World) (h : gauge_none.f a0 = some r) :
  Calls Try.prog 82 #[.int .u64 a0] w fun e w' => e = .returned (.bool r) ∧ Drawn0 w w' := by
 unfold gauge_none.f at h; split at h
 case isTrue hr => obtain rfl := Option.some.inj h; exact (none_any a0 w hr.1).mono fun _ _ ⟨he, hw⟩ => ⟨he, zk192⟩
 case isFalse => cases h
def gauge_Merge.f (a0_0 : Int) (a0_1 : Int) (a0_2 : Int) (a0_3 : Int) (a1_0 : Int) (a1_1 : Int) (a1_2 : Int) (a1_3 : Int) : Option (Int × Int × Int × Int) :=
 if (0 ≤ a0_0 ∧ a0_0 < 18446744073709551616) ∧ (0 ≤ a0_1 ∧ a0_1 < 18446744073709551616) ∧ (0 ≤ a1_0 ∧ a1_0 < 18446744073709551616) ∧ (0 ≤ a1_1 ∧ a1_1 < 18446744073709551616) then
  (flo_Less.f a1_2 a0_2).bind fun l1 => (flo_Less.f a0_3 a1_3).bind fun l2 =>
   some (hold (a0_0 + a1_0), hold (a0_1 + a1_1), (if (a0_0 == 0) = true then a1_2 else if (a1_0 == 0) = true then a0_2 else if l1 then a1_2 else a0_2), (if (a0_0 == 0) = true then a1_3 else if (a1_0 == 0) = true then a0_3 else if l2 then a1_3 else a0_3))
 else none
theorem gauge_Merge.calls (a0_0 : Int) (a0_1 : Int) (a0_2 : Int) (a0_3 : Int) (a1_0 : Int) (a1_1 : Int) (a1_2 : Int) (a1_3 : Int) (r1 : Int) (r2 : Int) (r3 : Int) (r4 : Int) (w : World) (h : gauge_Merge.f a0_0 a0_1 a0_2 a0_3 a1_0 a1_1 a1_2 a1_3 = some (r1, r2, r3, r4)) :
  Calls Try.prog 83 #[.agg #[.int .u64 a0_0, .int .u64 a0_1, .int .u64 a0_2, .int .u64 a0_3], .agg #[.int .u64 a1_0, .int .u64 a1_1, .int .u64 a1_2, .int .u64 a1_3]] w fun e w' => e = .returned (.agg #[.int .u64 r1, .int .u64 r2, .int .u64 r3, .int .u64 r4]) ∧ Below w.heap.size w w' := by
 unfold gauge_Merge.f at h; split at h
 case isTrue hr => obtain ⟨l1, e1, h⟩ := Option.bind_eq_some_iff.mp h; obtain ⟨l2, e2, h⟩ := Option.bind_eq_some_iff.mp h; simp only [Option.some.injEq, Prod.mk.injEq] at h; obtain ⟨rfl, rfl, rfl, rfl⟩ := h; exact gmerge_any a0_0 a0_1 a0_2 a0_3 a1_0 a1_1 a1_2 a1_3 w hr.1 hr.2.1 hr.2.2.1 hr.2.2.2 _ _ l1 l2 rfl rfl e1 e2
 case isFalse => cases h
def gauge_Add.f (a0_0 : Int) (a0_1 : Int) (a0_2 : Int) (a0_3 : Int) (a1 : Int) : Option (Int × Int × Int × Int) := (gauge_none.f a1).bind fun t116 => (if t116 = true then ((Hi.wide_Add.f a0_1 1).bind fun t117 => (some (a0_0, t117, a0_2, a0_3))) else ((gauge_Merge.f a0_0 a0_1 a0_2 a0_3 1 0 a1 a1).bind fun bt118 => (some (bt118.1, bt118.2.1, bt118.2.2.1, bt118.2.2.2))))
theorem two_ (w : World) (oA oB : Obj) : ((w.alloc oA).alloc oB).heap[w.heap.size]? = some oA ∧ ((w.alloc oA).alloc oB).heap[w.heap.size + 1]? = some oB ∧ Below w.heap.size w ((w.alloc oA).alloc oB) := by
 have s1 : (w.alloc oA).heap.size = w.heap.size + 1 := zk56
 exact ⟨blk_alloc (blk_new w _) _, by rw [← s1]; exact blk_new _ _, below_alloc (below_alloc (Below.refl _ _) _) _⟩
set_option maxHeartbeats 2000000 in
set_option maxRecDepth 100000 in
theorem gauge_Add.calls (a0_0 : Int) (a0_1 : Int) (a0_2 : Int) (a0_3 : Int) (a1 : Int) (r1 : Int) (r2 : Int) (r3 : Int) (r4 : Int) (w : World) (h : gauge_Add.f a0_0 a0_1 a0_2 a0_3 a1 = some (r1, r2, r3, r4)) :
  Calls Try.prog 54 #[.agg #[.int .u64 a0_0, .int .u64 a0_1, .int .u64 a0_2, .int .u64 a0_3], .int .u64 a1] w fun e w' => e = .returned (.agg #[.int .u64 r1, .int .u64 r2, .int .u64 r3, .int .u64 r4]) ∧ Below w.heap.size w w' := by
 unfold gauge_Add.f at h; obtain ⟨t, h1, h⟩ := Option.bind_eq_some_iff.mp h; have CN := fun w => gauge_none.calls a1 t w h1; have F := two_ w (.cells #[.int .u64 a0_0, .int .u64 a0_1, .int .u64 a0_2, .int .u64 a0_3] 43) (.cells #[.int .u64 0, .int .u64 0, .int .u64 0, .int .u64 0] 43); obtain ⟨W, hW⟩ : ∃ W, (w.alloc (.cells #[.int .u64 a0_0, .int .u64 a0_1, .int .u64 a0_2, .int .u64 a0_3] 43)).alloc (.cells #[.int .u64 0, .int .u64 0, .int .u64 0, .int .u64 0] 43) = W := ⟨_, rfl⟩
 have HW := Lib.hid hW; rw [hW] at F; obtain ⟨bA, bR, bL⟩ := F; have HA := Lib.hid bA; have HR := Lib.hid bR; have HL := Lib.hid bL; clear h1 hW bA bR bL; cases t
 ·rw [if_neg zk56] at h; obtain ⟨⟨x1, x2, x3, x4⟩, h2, h⟩ := Option.bind_eq_some_iff.mp h; simp only [Option.some.injEq, Prod.mk.injEq] at h; obtain ⟨rfl, rfl, rfl, rfl⟩ := h; have CM := fun w => gauge_Merge.calls a0_0 a0_1 a0_2 a0_3 1 0 a1 a1 x1 x2 x3 x4 w h2; clear h2; go_enter Try.func54, Try.ntmps54; (go_wp2_with fail); rw [HW.out]; (with_reducible refine (CN _).mono ?_); rintro e w1 ⟨rfl, hd⟩; have gA := blk_below HA.out hd.below; have gR := blk_below HR.out hd.below; have gL := HL.out.trans (hd.below.mono HL.out.size); have c0 := blk_cell gA 0; have c1 := blk_cell gA 1; have c2 := blk_cell gA 2; have c3 := blk_cell gA 3; have HR2 := Lib.hid gR; have HL2 := Lib.hid gL; clear gA gR gL hd CN; (go_wp2_with fail); (with_reducible refine (CM _).mono ?_); rintro e w2 ⟨rfl, hb⟩; have gR := blk_below HR2.out hb; have gL := HL2.out.trans (hb.mono HL2.out.size); have r0 := blk_cell gR 0; have r1 := blk_cell gR 1; have r2 := blk_cell gR 2; have r3 := blk_cell gR 3; have f0 := blk_frozen gR 0; have f1 := blk_frozen gR 1; have f2 := blk_frozen gR 2; have f3 := blk_frozen gR 3; have HR3 := Lib.hid gR; have HL3 := Lib.hid gL; clear gR gL hb CM c0 c1 c2 c3; go_wp2; refine bodyPost_ret (results_cell_row rfl _ _ (w.heap.size + 1) 43 #[.int .u64 x1, .int .u64 x2, .int .u64 x3, .int .u64 x4] (0, 0) _ rfl (by refine blk_put (cs := #[.int .u64 x1, .int .u64 x2, .int .u64 x3, .int .u64 0]) ?_ 3 _ rfl; refine blk_put (cs := #[.int .u64 x1, .int .u64 x2, .int .u64 0, .int .u64 0]) ?_ 2 _ rfl; refine blk_put (cs := #[.int .u64 x1, .int .u64 0, .int .u64 0, .int .u64 0]) ?_ 1 _ rfl; refine blk_put (cs := #[.int .u64 0, .int .u64 0, .int .u64 0, .int .u64 0]) ?_ 0 _ rfl; (with_reducible exact HR3.out)) Try.underlying43 rfl zk11) rfl ⟨rfl, ?_⟩; (repeat (first | (with_reducible exact HL3.out) | (with_reducible refine below_set ?_ zk6)))
 ·rw [if_pos rfl] at h; obtain ⟨x, h2, h⟩ := Option.bind_eq_some_iff.mp h; simp only [Option.some.injEq, Prod.mk.injEq] at h; obtain ⟨rfl, rfl, rfl, rfl⟩ := h; have CA := fun w => Hi.wide_Add.calls a0_1 1 x w h2; clear h2; go_enter Try.func54, Try.ntmps54; (go_wp2_with fail); rw [HW.out]; (with_reducible refine (CN _).mono ?_); rintro e w1 ⟨rfl, hd⟩; have gA := blk_below HA.out hd.below; have gR := blk_below HR.out hd.below; have gL := HL.out.trans (hd.below.mono HL.out.size); have c0 := blk_cell gA 0; have c1 := blk_cell gA 1; have c2 := blk_cell gA 2; have c3 := blk_cell gA 3; have HA2 := Lib.hid gA; have HR2 := Lib.hid gR; have HL2 := Lib.hid gL; clear gA gR gL hd CN; (go_wp2_with fail); (with_reducible refine (CA _).mono ?_); rintro e w2 ⟨rfl, hd⟩; have hb := hd.below; have gA := blk_below HA2.out hb; have gR := blk_below HR2.out hb; have gL := HL2.out.trans (hb.mono HL2.out.size); clear c0 c1 c2 c3; have c0 := blk_cell gA 0; have c1 := blk_cell gA 1; have c2 := blk_cell gA 2; have c3 := blk_cell gA 3; have fa := blk_frozen gA 1; have r0 := blk_cell gR 0; have r1 := blk_cell gR 1; have r2 := blk_cell gR 2; have r3 := blk_cell gR 3; have f0 := blk_frozen gR 0; have f1 := blk_frozen gR 1; have f2 := blk_frozen gR 2; have f3 := blk_frozen gR 3; have HR3 := Lib.hid gR; have HL3 := Lib.hid gL; clear gA gR gL hb CA hd; go_wp2; refine bodyPost_ret (results_cell_row rfl _ _ (w.heap.size + 1) 43 #[.int .u64 a0_0, .int .u64 x, .int .u64 a0_2, .int .u64 a0_3] (0, 0) _ rfl (by refine blk_put (cs := #[.int .u64 a0_0, .int .u64 x, .int .u64 a0_2, .int .u64 0]) ?_ 3 _ rfl; refine blk_put (cs := #[.int .u64 a0_0, .int .u64 x, .int .u64 0, .int .u64 0]) ?_ 2 _ rfl; refine blk_put (cs := #[.int .u64 a0_0, .int .u64 0, .int .u64 0, .int .u64 0]) ?_ 1 _ rfl; refine blk_put (cs := #[.int .u64 0, .int .u64 0, .int .u64 0, .int .u64 0]) ?_ 0 _ rfl; repeat (first | (with_reducible exact HR3.out) | (with_reducible refine blk_far ?_ zk56 _))) Try.underlying43 rfl zk11) rfl ⟨rfl, ?_⟩; (repeat (first | (with_reducible exact HL3.out) | (with_reducible refine below_set ?_ zk6)))
def gauge_Check.f (a0_0 : Int) (a0_1 : Int) (a0_2 : Int) (a0_3 : Int) : Option (Bool) := if a0_0 = 0 then (some (a0_0 == 0 && (a0_2 == 0 && (a0_3 == 0)))) else ((gauge_none.f a0_2).bind fun t108 => (if t108 = true then (some false) else ((gauge_none.f a0_3).bind fun t109 => (if t109 = true then (some false) else ((flo_Less.f a0_3 a0_2).bind fun t110 => (some (!t110)))))))
set_option maxHeartbeats 8000000 in
set_option maxRecDepth 100000 in
theorem gauge_Check.calls (a0_0 : Int) (a0_1 : Int) (a0_2 : Int) (a0_3 : Int) (r : Bool) (w : World) (h : gauge_Check.f a0_0 a0_1 a0_2 a0_3 = some r) :
  Calls Try.prog 62 #[.agg #[.int .u64 a0_0, .int .u64 a0_1, .int .u64 a0_2, .int .u64 a0_3]] w fun e w' => e = .returned (.bool r) ∧ Below w.heap.size w w' := by
 have hu43 := Try.underlying43; have HB := mkA (Below.refl w.heap.size w); have H : (if a0_0 = 0 then (some (a0_0 == 0 && (a0_2 == 0 && (a0_3 == 0)))) else ((gauge_none.f a0_2).bind fun t108 => (if t108 = true then (some false) else ((gauge_none.f a0_3).bind fun t109 => (if t109 = true then (some false) else ((flo_Less.f a0_3 a0_2).bind fun t110 => (some (!t110)))))))) = some r := h; clear h; by_cases c2 : a0_0 = 0
 ·rw [if_pos c2] at H
  have c2b0 : (a0_0 == 0) = true := beq_iff_eq.mpr c2; have c2b1 : (a0_0 != 0) = false := bne_eq_false_iff_eq.mpr c2; clear c2; obtain rfl := Option.some.inj H; go_enter Try.func62, Try.ntmps62; (go_wp2_with (first | ((with_reducible refine gate_dst (N := 1) rfl ?_); refine box_event ?hg (N := 1) ?hd (cs := #[.int .u64 a0_0, .int .u64 a0_1, .int .u64 a0_2, .int .u64 a0_3]) (t := 43) ?hr ?_; (case hd => exact zk50); (case hg => exact zk50); (case hr => exact zk26); intro gb107 hg w3 hbox hb; have n0_ := mkA (below_step zk1 hb); have n1_ := mkA (hbox); have n2_ := mkA ((by rw [hg]; exact (below_size zk1) : w.heap.size ≤ gb107)); have n3_ := mkA ((by rw [hg]; exact (below_size zk1) : w.heap.size ≤ gb107)); clear HB; have HB := n0_; have BK107 := n1_; have GW107 := n2_; have GE107 := n3_; clear n0_ n1_ n2_ n3_; clear hb hbox hg; obtain ⟨hcz4_0, hcz4_1, hcz4_2, hcz4_3, hfz4_0, hfz4_1, hfz4_2, hfz4_3⟩ := cf4 BK107.out))); go_ret
  exact ⟨zk7, zk85⟩
 ·rw [if_neg c2] at H
  have c2b0 : (a0_0 == 0) = false := beq_eq_false_iff_ne.mpr c2; have c2b1 : (a0_0 != 0) = true := bne_iff_ne.mpr c2; replace H := Option.bind_eq_some_iff.mp H; obtain ⟨t108, A50, H⟩ := H; replace H : (if t108 = true then (some false) else ((gauge_none.f a0_3).bind fun t109 => (if t109 = true then (some false) else ((flo_Less.f a0_3 a0_2).bind fun t110 => (some (!t110)))))) = some r := H; have A5 := mkA A50; clear A50; by_cases c6 : t108 = true
  ·subst c6
   have H1 : (some false) = some r := zk76
   clear H; have H := H1; clear H1; obtain rfl := Option.some.inj H; go_enter Try.func62, Try.ntmps62; (go_wp2_with (first | ((with_reducible refine gate_dst (N := 1) rfl ?_); refine box_event ?hg (N := 1) ?hd (cs := #[.int .u64 a0_0, .int .u64 a0_1, .int .u64 a0_2, .int .u64 a0_3]) (t := 43) ?hr ?_; (case hd => exact zk50); (case hg => exact zk50); (case hr => exact zk26); intro gb107 hg w7 hbox hb; have n0_ := mkA (below_step zk1 hb); have n1_ := mkA (hbox); have n2_ := mkA ((by rw [hg]; exact (below_size zk1) : w.heap.size ≤ gb107)); have n3_ := mkA ((by rw [hg]; exact (below_size zk1) : w.heap.size ≤ gb107)); clear HB; have HB := n0_; have BK107 := n1_; have GW107 := n2_; have GE107 := n3_; clear n0_ n1_ n2_ n3_; clear hb hbox hg; obtain ⟨hcz8_0, hcz8_1, hcz8_2, hcz8_3, hfz8_0, hfz8_1, hfz8_2, hfz8_3⟩ := cf4 BK107.out) | ((with_reducible refine gate_callee (f := 82) rfl ?_); refine goesL_ (some 13) rfl rfl Try.func82 zk11 rfl #[.int .u64 a0_2] rfl zk2 ?_; (with_reducible refine (gauge_none.calls a0_2 true _ A5.out).mono ?_); rintro e w' ⟨rfl, ⟨nd, rfl⟩⟩; refine ⟨_, rfl, ?_⟩))); go_ret
   exact ⟨zk7, zk85⟩
  ·replace c6 := Bool.eq_false_iff.mpr c6
   subst c6; have H1 : ((gauge_none.f a0_3).bind fun t109 => (if t109 = true then (some false) else ((flo_Less.f a0_3 a0_2).bind fun t110 => (some (!t110))))) = some r := zk41
   clear H; have H := H1; clear H1; replace H := Option.bind_eq_some_iff.mp H; obtain ⟨t109, A90, H⟩ := H; replace H : (if t109 = true then (some false) else ((flo_Less.f a0_3 a0_2).bind fun t110 => (some (!t110)))) = some r := H; have A9 := mkA A90; clear A90; by_cases c10 : t109 = true
   ·subst c10
    have H1 : (some false) = some r := zk76
    clear H; have H := H1; clear H1; obtain rfl := Option.some.inj H; go_enter Try.func62, Try.ntmps62; (go_wp2_with (first | ((with_reducible refine gate_dst (N := 1) rfl ?_); refine box_event ?hg (N := 1) ?hd (cs := #[.int .u64 a0_0, .int .u64 a0_1, .int .u64 a0_2, .int .u64 a0_3]) (t := 43) ?hr ?_; (case hd => exact zk50); (case hg => exact zk50); (case hr => exact zk26); intro gb107 hg w11 hbox hb; have n0_ := mkA (below_step zk1 hb); have n1_ := mkA (hbox); have n2_ := mkA ((by rw [hg]; exact (below_size zk1) : w.heap.size ≤ gb107)); have n3_ := mkA ((by rw [hg]; exact (below_size zk1) : w.heap.size ≤ gb107)); clear HB; have HB := n0_; have BK107 := n1_; have GW107 := n2_; have GE107 := n3_; clear n0_ n1_ n2_ n3_; clear hb hbox hg; obtain ⟨hcz12_0, hcz12_1, hcz12_2, hcz12_3, hfz12_0, hfz12_1, hfz12_2, hfz12_3⟩ := cf4 BK107.out) | ((with_reducible refine gate_callee (f := 82) rfl ?_); refine goesL_ (some 13) rfl rfl Try.func82 zk11 rfl #[.int .u64 a0_2] rfl zk2 ?_; (with_reducible refine (gauge_none.calls a0_2 false _ A5.out).mono ?_); rintro e w' ⟨rfl, ⟨nd, rfl⟩⟩; refine ⟨_, rfl, ?_⟩) | (go_at_call 82; (with_reducible refine (gauge_none.calls a0_3 true _ A9.out).mono ?_); rintro e w' ⟨rfl, ⟨nd, rfl⟩⟩))); go_ret
    exact ⟨zk7, zk85⟩
   ·replace c10 := Bool.eq_false_iff.mpr c10
    subst c10; have H1 : ((flo_Less.f a0_3 a0_2).bind fun t110 => (some (!t110))) = some r := zk41
    clear H; have H := H1; clear H1; replace H := Option.bind_eq_some_iff.mp H; obtain ⟨t110, A130, H⟩ := H; replace H : (some (!t110)) = some r := H; have A13 := mkA A130; clear A130; obtain rfl := Option.some.inj H; go_enter Try.func62, Try.ntmps62; (go_wp2_with (first | ((with_reducible refine gate_dst (N := 1) rfl ?_); refine box_event ?hg (N := 1) ?hd (cs := #[.int .u64 a0_0, .int .u64 a0_1, .int .u64 a0_2, .int .u64 a0_3]) (t := 43) ?hr ?_; (case hd => exact zk50); (case hg => exact zk50); (case hr => exact zk26); intro gb107 hg w14 hbox hb; have n0_ := mkA (below_step zk1 hb); have n1_ := mkA (hbox); have n2_ := mkA ((by rw [hg]; exact (below_size zk1) : w.heap.size ≤ gb107)); have n3_ := mkA ((by rw [hg]; exact (below_size zk1) : w.heap.size ≤ gb107)); clear HB; have HB := n0_; have BK107 := n1_; have GW107 := n2_; have GE107 := n3_; clear n0_ n1_ n2_ n3_; clear hb hbox hg; obtain ⟨hcz15_0, hcz15_1, hcz15_2, hcz15_3, hfz15_0, hfz15_1, hfz15_2, hfz15_3⟩ := cf4 BK107.out) | ((with_reducible refine gate_callee (f := 82) rfl ?_); refine goesL_ (some 13) rfl rfl Try.func82 zk11 rfl #[.int .u64 a0_2] rfl zk2 ?_; (with_reducible refine (gauge_none.calls a0_2 false _ A5.out).mono ?_); rintro e w' ⟨rfl, ⟨nd, rfl⟩⟩; refine ⟨_, rfl, ?_⟩) | (go_at_call 82; (with_reducible refine (gauge_none.calls a0_3 false _ A9.out).mono ?_); rintro e w' ⟨rfl, ⟨nd, rfl⟩⟩) | (go_at_call 90; (with_reducible refine (flo_Less.calls a0_3 a0_2 t110 _ A13.out).mono ?_); rintro e w' ⟨rfl, ⟨nd, rfl⟩⟩))); go_ret
    exact ⟨zk7, zk85⟩
def varveref09_Merge.f (a0_0 : Int) (a0_1 : Int) (a0_2 : Int) (a0_3 : Int) (a1_0 : Int) (a1_1 : Int) (a1_2 : Int) (a1_3 : Int) : Option (Int × Int × Int × Int) :=
 if (0 ≤ a0_0 ∧ a0_0 < 18446744073709551616) ∧ (0 ≤ a0_1 ∧ a0_1 < 18446744073709551616) ∧ (0 ≤ a1_0 ∧ a1_0 < 18446744073709551616) ∧ (0 ≤ a1_1 ∧ a1_1 < 18446744073709551616) then
  (varveref02_Less.f 1 a1_2 a0_2).bind fun l1 => (varveref02_Less.f 1 a0_3 a1_3).bind fun l2 =>
   some (hold (a0_0 + a1_0), hold (a0_1 + a1_1), (if (a0_0 == 0) = true then a1_2 else if (a1_0 == 0) = true then a0_2 else if l1 then a1_2 else a0_2), (if (a0_0 == 0) = true then a1_3 else if (a1_0 == 0) = true then a0_3 else if l2 then a1_3 else a0_3))
 else none
def varveref09_Add.f (k : Nat) (a0_0 : Int) (a0_1 : Int) (a0_2 : Int) (a0_3 : Int) (a1 : Int) : Option (Int × Int × Int × Int) := (varveref02_Kind.f k a1).bind fun t123 => (if t123 = 4 then ((varveref09_Merge.f a0_0 a0_1 a0_2 a0_3 0 1 0 0).bind fun bt124 => (some (bt124.1, bt124.2.1, bt124.2.2.1, bt124.2.2.2))) else ((varveref09_Merge.f a0_0 a0_1 a0_2 a0_3 1 0 a1 a1).bind fun bt128 => (some (bt128.1, bt128.2.1, bt128.2.2.1, bt128.2.2.2))))
def varveref09_Check.f (k : Nat) (a0_0 : Int) (a0_1 : Int) (a0_2 : Int) (a0_3 : Int) : Option (Bool) := if a0_0 = 0 then (if a0_2 = 0 then (some (a0_3 == 0)) else (some false)) else ((varveref02_Kind.f k a0_2).bind fun t133 => (if t133 = 4 then (some false) else ((varveref02_Kind.f k a0_3).bind fun t134 => (if t134 = 4 then (some false) else ((varveref02_Less.f k a0_3 a0_2).bind fun t135 => (some (!t135)))))))
set_option maxHeartbeats 8000000 in
set_option maxRecDepth 100000 in
theorem varveref09_Check.calls (k : Nat) (a0_0 : Int) (a0_1 : Int) (a0_2 : Int) (a0_3 : Int) (r : Bool) (w : World) (h : varveref09_Check.f k a0_0 a0_1 a0_2 a0_3 = some r) :
  Calls Try.prog 67 #[.agg #[.int .u64 a0_0, .int .u64 a0_1, .int .u64 a0_2, .int .u64 a0_3]] w fun e w' => e = .returned (.bool r) ∧ Below w.heap.size w w' := by
 have hu43 := Try.underlying43; have HB := mkA (Below.refl w.heap.size w); have H : (if a0_0 = 0 then (if a0_2 = 0 then (some (a0_3 == 0)) else (some false)) else ((varveref02_Kind.f k a0_2).bind fun t133 => (if t133 = 4 then (some false) else ((varveref02_Kind.f k a0_3).bind fun t134 => (if t134 = 4 then (some false) else ((varveref02_Less.f k a0_3 a0_2).bind fun t135 => (some (!t135)))))))) = some r := h; clear h; by_cases c2 : a0_0 = 0
 ·rw [if_pos c2] at H
  have c2b0 : (a0_0 == 0) = true := beq_iff_eq.mpr c2; have c2b1 : (a0_0 != 0) = false := bne_eq_false_iff_eq.mpr c2; clear c2; by_cases c3 : a0_2 = 0
  ·rw [if_pos c3] at H
   have c3b0 : (a0_2 == 0) = true := beq_iff_eq.mpr c3; have c3b1 : (a0_2 != 0) = false := bne_eq_false_iff_eq.mpr c3; clear c3; obtain rfl := Option.some.inj H; go_enter Try.func67, Try.ntmps67; (go_wp2_with (first | ((with_reducible refine gate_dst (N := 1) rfl ?_); refine box_event ?hg (N := 1) ?hd (cs := #[.int .u64 a0_0, .int .u64 a0_1, .int .u64 a0_2, .int .u64 a0_3]) (t := 43) ?hr ?_; (case hd => exact zk50); (case hg => exact zk50); (case hr => exact zk26); intro gb132 hg w4 hbox hb; have n0_ := mkA (below_step zk1 hb); have n1_ := mkA (hbox); have n2_ := mkA ((by rw [hg]; exact (below_size zk1) : w.heap.size ≤ gb132)); have n3_ := mkA ((by rw [hg]; exact (below_size zk1) : w.heap.size ≤ gb132)); clear HB; have HB := n0_; have BK132 := n1_; have GW132 := n2_; have GE132 := n3_; clear n0_ n1_ n2_ n3_; clear hb hbox hg; obtain ⟨hcz5_0, hcz5_1, hcz5_2, hcz5_3, hfz5_0, hfz5_1, hfz5_2, hfz5_3⟩ := cf4 BK132.out))); go_ret
   exact ⟨zk7, zk74⟩
  ·rw [if_neg c3] at H
   have c3b0 : (a0_2 == 0) = false := beq_eq_false_iff_ne.mpr c3; have c3b1 : (a0_2 != 0) = true := bne_iff_ne.mpr c3; obtain rfl := Option.some.inj H; go_enter Try.func67, Try.ntmps67; (go_wp2_with (first | ((with_reducible refine gate_dst (N := 1) rfl ?_); refine box_event ?hg (N := 1) ?hd (cs := #[.int .u64 a0_0, .int .u64 a0_1, .int .u64 a0_2, .int .u64 a0_3]) (t := 43) ?hr ?_; (case hd => exact zk50); (case hg => exact zk50); (case hr => exact zk26); intro gb132 hg w6 hbox hb; have n0_ := mkA (below_step zk1 hb); have n1_ := mkA (hbox); have n2_ := mkA ((by rw [hg]; exact (below_size zk1) : w.heap.size ≤ gb132)); have n3_ := mkA ((by rw [hg]; exact (below_size zk1) : w.heap.size ≤ gb132)); clear HB; have HB := n0_; have BK132 := n1_; have GW132 := n2_; have GE132 := n3_; clear n0_ n1_ n2_ n3_; clear hb hbox hg; obtain ⟨hcz7_0, hcz7_1, hcz7_2, hcz7_3, hfz7_0, hfz7_1, hfz7_2, hfz7_3⟩ := cf4 BK132.out))); go_ret
   exact ⟨zk7, zk74⟩
 ·rw [if_neg c2] at H
  have c2b0 : (a0_0 == 0) = false := beq_eq_false_iff_ne.mpr c2; have c2b1 : (a0_0 != 0) = true := bne_iff_ne.mpr c2; replace H := Option.bind_eq_some_iff.mp H; obtain ⟨t133, A80, H⟩ := H; replace H : (if t133 = 4 then (some false) else ((varveref02_Kind.f k a0_3).bind fun t134 => (if t134 = 4 then (some false) else ((varveref02_Less.f k a0_3 a0_2).bind fun t135 => (some (!t135)))))) = some r := H; have A8 := mkA A80; clear A80; by_cases c9 : t133 = 4
  ·rw [if_pos c9] at H
   have c9b0 : (t133 == 4) = true := beq_iff_eq.mpr c9; have c9b1 : (t133 != 4) = false := bne_eq_false_iff_eq.mpr c9; clear c9; obtain rfl := Option.some.inj H; go_enter Try.func67, Try.ntmps67; (go_wp2_with (first | ((with_reducible refine gate_dst (N := 1) rfl ?_); refine box_event ?hg (N := 1) ?hd (cs := #[.int .u64 a0_0, .int .u64 a0_1, .int .u64 a0_2, .int .u64 a0_3]) (t := 43) ?hr ?_; (case hd => exact zk50); (case hg => exact zk50); (case hr => exact zk26); intro gb132 hg w10 hbox hb; have n0_ := mkA (below_step zk1 hb); have n1_ := mkA (hbox); have n2_ := mkA ((by rw [hg]; exact (below_size zk1) : w.heap.size ≤ gb132)); have n3_ := mkA ((by rw [hg]; exact (below_size zk1) : w.heap.size ≤ gb132)); clear HB; have HB := n0_; have BK132 := n1_; have GW132 := n2_; have GE132 := n3_; clear n0_ n1_ n2_ n3_; clear hb hbox hg; obtain ⟨hcz11_0, hcz11_1, hcz11_2, hcz11_3, hfz11_0, hfz11_1, hfz11_2, hfz11_3⟩ := cf4 BK132.out) | ((with_reducible refine gate_callee (f := 88) rfl ?_); refine goesL_ (some 16) rfl rfl Try.func88 zk11 rfl #[.int .u64 a0_2] rfl zk2 ?_; (with_reducible refine (varveref02_Kind.calls k a0_2 t133 _ A8.out).mono ?_); rintro e w' ⟨rfl, ⟨nd, rfl⟩⟩; refine ⟨_, rfl, ?_⟩))); go_ret
   exact ⟨zk7, zk74⟩
  ·rw [if_neg c9] at H
   have c9b0 : (t133 == 4) = false := beq_eq_false_iff_ne.mpr c9; have c9b1 : (t133 != 4) = true := bne_iff_ne.mpr c9; replace H := Option.bind_eq_some_iff.mp H; obtain ⟨t134, A120, H⟩ := H; replace H : (if t134 = 4 then (some false) else ((varveref02_Less.f k a0_3 a0_2).bind fun t135 => (some (!t135)))) = some r := H; have A12 := mkA A120; clear A120; by_cases c13 : t134 = 4
   ·rw [if_pos c13] at H
    have c13b0 : (t134 == 4) = true := beq_iff_eq.mpr c13; have c13b1 : (t134 != 4) = false := bne_eq_false_iff_eq.mpr c13; clear c13; obtain rfl := Option.some.inj H; go_enter Try.func67, Try.ntmps67; (go_wp2_with (first | ((with_reducible refine gate_dst (N := 1) rfl ?_); refine box_event ?hg (N := 1) ?hd (cs := #[.int .u64 a0_0, .int .u64 a0_1, .int .u64 a0_2, .int .u64 a0_3]) (t := 43) ?hr ?_; (case hd => exact zk50); (case hg => exact zk50); (case hr => exact zk26); intro gb132 hg w14 hbox hb; have n0_ := mkA (below_step zk1 hb); have n1_ := mkA (hbox); have n2_ := mkA ((by rw [hg]; exact (below_size zk1) : w.heap.size ≤ gb132)); have n3_ := mkA ((by rw [hg]; exact (below_size zk1) : w.heap.size ≤ gb132)); clear HB; have HB := n0_; have BK132 := n1_; have GW132 := n2_; have GE132 := n3_; clear n0_ n1_ n2_ n3_; clear hb hbox hg; obtain ⟨hcz15_0, hcz15_1, hcz15_2, hcz15_3, hfz15_0, hfz15_1, hfz15_2, hfz15_3⟩ := cf4 BK132.out) | ((with_reducible refine gate_callee (f := 88) rfl ?_); refine goesL_ (some 16) rfl rfl Try.func88 zk11 rfl #[.int .u64 a0_2] rfl zk2 ?_; (with_reducible refine (varveref02_Kind.calls k a0_2 t133 _ A8.out).mono ?_); rintro e w' ⟨rfl, ⟨nd, rfl⟩⟩; refine ⟨_, rfl, ?_⟩) | (go_at_call 88; (with_reducible refine (varveref02_Kind.calls k a0_3 t134 _ A12.out).mono ?_); rintro e w' ⟨rfl, ⟨nd, rfl⟩⟩))); go_ret
    exact ⟨zk7, zk74⟩
   ·rw [if_neg c13] at H
    have c13b0 : (t134 == 4) = false := beq_eq_false_iff_ne.mpr c13; have c13b1 : (t134 != 4) = true := bne_iff_ne.mpr c13; replace H := Option.bind_eq_some_iff.mp H; obtain ⟨t135, A160, H⟩ := H; replace H : (some (!t135)) = some r := H; have A16 := mkA A160; clear A160; obtain rfl := Option.some.inj H; go_enter Try.func67, Try.ntmps67; (go_wp2_with (first | ((with_reducible refine gate_dst (N := 1) rfl ?_); refine box_event ?hg (N := 1) ?hd (cs := #[.int .u64 a0_0, .int .u64 a0_1, .int .u64 a0_2, .int .u64 a0_3]) (t := 43) ?hr ?_; (case hd => exact zk50); (case hg => exact zk50); (case hr => exact zk26); intro gb132 hg w17 hbox hb; have n0_ := mkA (below_step zk1 hb); have n1_ := mkA (hbox); have n2_ := mkA ((by rw [hg]; exact (below_size zk1) : w.heap.size ≤ gb132)); have n3_ := mkA ((by rw [hg]; exact (below_size zk1) : w.heap.size ≤ gb132)); clear HB; have HB := n0_; have BK132 := n1_; have GW132 := n2_; have GE132 := n3_; clear n0_ n1_ n2_ n3_; clear hb hbox hg; obtain ⟨hcz18_0, hcz18_1, hcz18_2, hcz18_3, hfz18_0, hfz18_1, hfz18_2, hfz18_3⟩ := cf4 BK132.out) | ((with_reducible refine gate_callee (f := 88) rfl ?_); refine goesL_ (some 16) rfl rfl Try.func88 zk11 rfl #[.int .u64 a0_2] rfl zk2 ?_; (with_reducible refine (varveref02_Kind.calls k a0_2 t133 _ A8.out).mono ?_); rintro e w' ⟨rfl, ⟨nd, rfl⟩⟩; refine ⟨_, rfl, ?_⟩) | (go_at_call 88; (with_reducible refine (varveref02_Kind.calls k a0_3 t134 _ A12.out).mono ?_); rintro e w' ⟨rfl, ⟨nd, rfl⟩⟩) | (go_at_call 94; (with_reducible refine (varveref02_Less.calls k a0_3 a0_2 t135 _ A16.out).mono ?_); rintro e w' ⟨rfl, ⟨nd, rfl⟩⟩))); go_ret
    exact ⟨zk7, zk74⟩
def pair_Empty.f (l0_0 : List (S70)) (l0_1 : List Int) (a0_2 : Int) (a0_3 : Int) (a0_4 : Int) (a0_5 : Int) : Option (Bool) := if (l0_0.length : Int) = 0 then (if (l0_1.length : Int) = 0 then (if a0_2 = 0 then (some (a0_3 == 0)) else (some false)) else (some false)) else (some false)
set_option maxHeartbeats 8000000 in
set_option maxRecDepth 100000 in
theorem pair_Empty.calls (A0_0 : Option Addr) (c0_0 : Nat) (l0_0 : List (S70)) (A0_1 : Option Addr) (c0_1 : Nat) (l0_1 : List Int) (a0_2 : Int) (a0_3 : Int) (a0_4 : Int) (a0_5 : Int) (r : Bool) (w : World) (hr0_0 : Kd.C k70 w A0_0 l0_0.length l0_0) (hc0_0 : l0_0.length ≤ c0_0) (hr0_1 : Kd.C (Kd.int .u64) w A0_1 l0_1.length l0_1) (hc0_1 : l0_1.length ≤ c0_1) (h : pair_Empty.f l0_0 l0_1 a0_2 a0_3 a0_4 a0_5 = some r) :
  Calls Try.prog 23 #[.agg #[.slice A0_0 l0_0.length c0_0, .slice A0_1 l0_1.length c0_1, .int .u64 a0_2, .int .u64 a0_3, .int .u64 a0_4, .int .u64 a0_5]] w fun e w' => e = .returned (.bool r) ∧ Below w.heap.size w w' := by
 have hu45 := Try.underlying45; have HR0_0 := mkA hr0_0; have HC0_0 := mkA hc0_0; clear hr0_0 hc0_0; have HR0_1 := mkA hr0_1; have HC0_1 := mkA hc0_1; clear hr0_1 hc0_1; have HB := mkA (Below.refl w.heap.size w); have H : (if (l0_0.length : Int) = 0 then (if (l0_1.length : Int) = 0 then (if a0_2 = 0 then (some (a0_3 == 0)) else (some false)) else (some false)) else (some false)) = some r := h; clear h; by_cases c2 : (l0_0.length : Int) = 0
 ·rw [if_pos c2] at H
  have c2b0 : ((l0_0.length : Int) == 0) = true := beq_iff_eq.mpr c2; have c2b1 : ((l0_0.length : Int) != 0) = false := bne_eq_false_iff_eq.mpr c2; clear c2; by_cases c3 : (l0_1.length : Int) = 0
  ·rw [if_pos c3] at H
   have c3b0 : ((l0_1.length : Int) == 0) = true := beq_iff_eq.mpr c3; have c3b1 : ((l0_1.length : Int) != 0) = false := bne_eq_false_iff_eq.mpr c3; clear c3; by_cases c4 : a0_2 = 0
   ·rw [if_pos c4] at H
    have c4b0 : (a0_2 == 0) = true := beq_iff_eq.mpr c4; have c4b1 : (a0_2 != 0) = false := bne_eq_false_iff_eq.mpr c4; clear c4; obtain rfl := Option.some.inj H; go_enter Try.func23, Try.ntmps23; (go_wp2_with (first | ((with_reducible refine gate_dst (N := 1) rfl ?_); (try (refine gate_guard zk50 ?_; dsimp only)); refine box_event ?hg (N := 1) ?hd (cs := #[.slice A0_0 l0_0.length c0_0, .slice A0_1 l0_1.length c0_1, .int .u64 a0_2, .int .u64 a0_3, .int .u64 a0_4, .int .u64 a0_5]) (t := 45) ?hr ?_; (case hd => exact zk50); (case hg => exact zk50); (case hr => exact zk26); intro gb136 hg w5 hbox hb; have n0_ := mkA (below_step zk1 hb); have n1_ := mkA (hbox); have n2_ := mkA ((by rw [hg]; exact (below_size zk1) : w.heap.size ≤ gb136)); have n3_ := mkA ((by rw [hg]; exact (below_size zk1) : w.heap.size ≤ gb136)); clear HB; have HB := n0_; have BK136 := n1_; have GW136 := n2_; have GE136 := n3_; clear n0_ n1_ n2_ n3_; clear hb hbox hg; obtain ⟨hcz6_0, hcz6_1, hcz6_2, hcz6_3, hcz6_4, hcz6_5, hfz6_0, hfz6_1, hfz6_2, hfz6_3, hfz6_4, hfz6_5⟩ := cf6 BK136.out))); go_ret
    exact ⟨zk7, zk12⟩
   ·rw [if_neg c4] at H
    have c4b0 : (a0_2 == 0) = false := beq_eq_false_iff_ne.mpr c4; have c4b1 : (a0_2 != 0) = true := bne_iff_ne.mpr c4; obtain rfl := Option.some.inj H; go_enter Try.func23, Try.ntmps23; (go_wp2_with (first | ((with_reducible refine gate_dst (N := 1) rfl ?_); (try (refine gate_guard zk50 ?_; dsimp only)); refine box_event ?hg (N := 1) ?hd (cs := #[.slice A0_0 l0_0.length c0_0, .slice A0_1 l0_1.length c0_1, .int .u64 a0_2, .int .u64 a0_3, .int .u64 a0_4, .int .u64 a0_5]) (t := 45) ?hr ?_; (case hd => exact zk50); (case hg => exact zk50); (case hr => exact zk26); intro gb136 hg w7 hbox hb; have n0_ := mkA (below_step zk1 hb); have n1_ := mkA (hbox); have n2_ := mkA ((by rw [hg]; exact (below_size zk1) : w.heap.size ≤ gb136)); have n3_ := mkA ((by rw [hg]; exact (below_size zk1) : w.heap.size ≤ gb136)); clear HB; have HB := n0_; have BK136 := n1_; have GW136 := n2_; have GE136 := n3_; clear n0_ n1_ n2_ n3_; clear hb hbox hg; obtain ⟨hcz8_0, hcz8_1, hcz8_2, hcz8_3, hcz8_4, hcz8_5, hfz8_0, hfz8_1, hfz8_2, hfz8_3, hfz8_4, hfz8_5⟩ := cf6 BK136.out))); go_ret
    exact ⟨zk7, zk12⟩
  ·rw [if_neg c3] at H
   have c3b0 : ((l0_1.length : Int) == 0) = false := beq_eq_false_iff_ne.mpr c3; have c3b1 : ((l0_1.length : Int) != 0) = true := bne_iff_ne.mpr c3; have c3b2 : ¬ (l0_1 = []) := fun h_ => c3 (by rw [h_]; rfl); obtain rfl := Option.some.inj H; go_enter Try.func23, Try.ntmps23; (go_wp2_with (first | ((with_reducible refine gate_dst (N := 1) rfl ?_); (try (refine gate_guard zk50 ?_; dsimp only)); refine box_event ?hg (N := 1) ?hd (cs := #[.slice A0_0 l0_0.length c0_0, .slice A0_1 l0_1.length c0_1, .int .u64 a0_2, .int .u64 a0_3, .int .u64 a0_4, .int .u64 a0_5]) (t := 45) ?hr ?_; (case hd => exact zk50); (case hg => exact zk50); (case hr => exact zk26); intro gb136 hg w9 hbox hb; have n0_ := mkA (below_step zk1 hb); have n1_ := mkA (hbox); have n2_ := mkA ((by rw [hg]; exact (below_size zk1) : w.heap.size ≤ gb136)); have n3_ := mkA ((by rw [hg]; exact (below_size zk1) : w.heap.size ≤ gb136)); clear HB; have HB := n0_; have BK136 := n1_; have GW136 := n2_; have GE136 := n3_; clear n0_ n1_ n2_ n3_; clear hb hbox hg; obtain ⟨hcz10_0, hcz10_1, hcz10_2, hcz10_3, hcz10_4, hcz10_5, hfz10_0, hfz10_1, hfz10_2, hfz10_3, hfz10_4, hfz10_5⟩ := cf6 BK136.out))); go_ret
   exact ⟨zk7, zk12⟩
 ·rw [if_neg c2] at H
  have c2b0 : ((l0_0.length : Int) == 0) = false := beq_eq_false_iff_ne.mpr c2; have c2b1 : ((l0_0.length : Int) != 0) = true := bne_iff_ne.mpr c2; have c2b2 : ¬ (l0_0 = []) := fun h_ => c2 (by rw [h_]; rfl); obtain rfl := Option.some.inj H; go_enter Try.func23, Try.ntmps23; (go_wp2_with (first | ((with_reducible refine gate_dst (N := 1) rfl ?_); (try (refine gate_guard zk50 ?_; dsimp only)); refine box_event ?hg (N := 1) ?hd (cs := #[.slice A0_0 l0_0.length c0_0, .slice A0_1 l0_1.length c0_1, .int .u64 a0_2, .int .u64 a0_3, .int .u64 a0_4, .int .u64 a0_5]) (t := 45) ?hr ?_; (case hd => exact zk50); (case hg => exact zk50); (case hr => exact zk26); intro gb136 hg w11 hbox hb; have n0_ := mkA (below_step zk1 hb); have n1_ := mkA (hbox); have n2_ := mkA ((by rw [hg]; exact (below_size zk1) : w.heap.size ≤ gb136)); have n3_ := mkA ((by rw [hg]; exact (below_size zk1) : w.heap.size ≤ gb136)); clear HB; have HB := n0_; have BK136 := n1_; have GW136 := n2_; have GE136 := n3_; clear n0_ n1_ n2_ n3_; clear hb hbox hg; obtain ⟨hcz12_0, hcz12_1, hcz12_2, hcz12_3, hcz12_4, hcz12_5, hfz12_0, hfz12_1, hfz12_2, hfz12_3, hfz12_4, hfz12_5⟩ := cf6 BK136.out))); go_ret
  exact ⟨zk7, zk12⟩
end Go.Proofs.Ytplgffbfepnihaa.Ga
namespace Go.Proofs.Ytplgffbfepnihaa.Ga
open Go.RowKit Go.Proofs.YtplgffbfepnihaaW.PrintWords Go.Proofs.YtplgffbfepnihaaW.PrintLast Go.Proofs.YtplgffbfepnihaaW.PrintMore Go.Proofs.Ytplgffbfepnihaa.Hi Go.Proofs.Ytplgffbfepnihaa.Q Go.Proofs.Ytplgffbfepnihaa.Gb
attribute [local go_sem high] eqA43 eqA70
mutual
def varveref10_Same.j0 : Nat → Bool → List (S70) → List Int → Int → Int → Int → Int → List (S70) → List Int → Int → Int → Int → Int → Option (Bool)
 | 0, _, _, _, _, _, _, _, _, _, _, _, _, _ => none
 | k + 1, x29, x138000, x138001, x138002, x138003, x138004, x138005, x139000, x139001, x139002, x139003, x139004, x139005 => if x29 = true then (some false) else (varveref10_Same.l0 k 0 x138000 x138001 x138002 x138003 x138004 x138005 x139000 x139001 x139002 x139003 x139004 x139005)
def varveref10_Same.l0 : Nat → Int → List (S70) → List Int → Int → Int → Int → Int → List (S70) → List Int → Int → Int → Int → Int → Option (Bool)
 | 0, _, _, _, _, _, _, _, _, _, _, _, _, _ => none
 | k + 1, x5, x138000, x138001, x138002, x138003, x138004, x138005, x139000, x139001, x139002, x139003, x139004, x139005 => if x5 < (x138000.length : Int) then (if 0 ≤ x5 then (if x5 < (x139000.length : Int) then (if (!(((rd_T70 x138000 x5).f0) == ((rd_T70 x139000 x5).f0)) || (!(((rd_T70 x138000 x5).f1) == ((rd_T70 x139000 x5).f1)))) = true then (some false) else (varveref10_Same.l0 k (wrap64 (x5 + 1)) x138000 x138001 x138002 x138003 x138004 x138005 x139000 x139001 x139002 x139003 x139004 x139005)) else (none)) else (none)) else (varveref10_Same.l1 k 0 x138000 x138001 x138002 x138003 x138004 x138005 x139000 x139001 x139002 x139003 x139004 x139005)
def varveref10_Same.l1 : Nat → Int → List (S70) → List Int → Int → Int → Int → Int → List (S70) → List Int → Int → Int → Int → Int → Option (Bool)
 | 0, _, _, _, _, _, _, _, _, _, _, _, _, _ => none
 | k + 1, x6, x138000, x138001, x138002, x138003, x138004, x138005, x139000, x139001, x139002, x139003, x139004, x139005 => if x6 < (x138001.length : Int) then (if 0 ≤ x6 then (if x6 < (x139001.length : Int) then (if (rd x138001 x6) = (rd x139001 x6) then (varveref10_Same.l1 k (wrap64 (x6 + 1)) x138000 x138001 x138002 x138003 x138004 x138005 x139000 x139001 x139002 x139003 x139004 x139005) else (some false)) else (none)) else (none)) else (some true)
end
def varveref10_Same.f (k : Nat) (l0_0 : List (S70)) (l0_1 : List Int) (a0_2 : Int) (a0_3 : Int) (a0_4 : Int) (a0_5 : Int) (l1_0 : List (S70)) (l1_1 : List Int) (a1_2 : Int) (a1_3 : Int) (a1_4 : Int) (a1_5 : Int) : Option (Bool) := if (l0_0.length : Int) = (l1_0.length : Int) then (if (l0_1.length : Int) = (l1_1.length : Int) then (varveref10_Same.j0 k (!(a0_2 == a1_2) || (!(a0_3 == a1_3) || (!(a0_4 == a1_4) || (!(a0_5 == a1_5))))) l0_0 l0_1 a0_2 a0_3 a0_4 a0_5 l1_0 l1_1 a1_2 a1_3 a1_4 a1_5) else (varveref10_Same.j0 k true l0_0 l0_1 a0_2 a0_3 a0_4 a0_5 l1_0 l1_1 a1_2 a1_3 a1_4 a1_5)) else (varveref10_Same.j0 k true l0_0 l0_1 a0_2 a0_3 a0_4 a0_5 l1_0 l1_1 a1_2 a1_3 a1_4 a1_5)
set_option maxHeartbeats 8000000 in
set_option maxRecDepth 100000 in
theorem varveref10_Same.calls (k : Nat) (A0_0 : Option Addr) (c0_0 : Nat) (l0_0 : List (S70)) (A0_1 : Option Addr) (c0_1 : Nat) (l0_1 : List Int) (a0_2 : Int) (a0_3 : Int) (a0_4 : Int) (a0_5 : Int) (A1_0 : Option Addr) (c1_0 : Nat) (l1_0 : List (S70)) (A1_1 : Option Addr) (c1_1 : Nat) (l1_1 : List Int) (a1_2 : Int) (a1_3 : Int) (a1_4 : Int) (a1_5 : Int) (r : Bool) (w : World) (hr0_0 : Kd.C k70 w A0_0 l0_0.length l0_0) (hc0_0 : l0_0.length ≤ c0_0) (hr0_1 : Kd.C (Kd.int .u64) w A0_1 l0_1.length l0_1) (hc0_1 : l0_1.length ≤ c0_1) (hr1_0 : Kd.C k70 w A1_0 l1_0.length l1_0) (hc1_0 : l1_0.length ≤ c1_0) (hr1_1 : Kd.C (Kd.int .u64) w A1_1 l1_1.length l1_1) (hc1_1 : l1_1.length ≤ c1_1) (h : varveref10_Same.f k l0_0 l0_1 a0_2 a0_3 a0_4 a0_5 l1_0 l1_1 a1_2 a1_3 a1_4 a1_5 = some r) :
  Calls Try.prog 20 #[.agg #[.slice A0_0 l0_0.length c0_0, .slice A0_1 l0_1.length c0_1, .int .u64 a0_2, .int .u64 a0_3, .int .u64 a0_4, .int .u64 a0_5], .agg #[.slice A1_0 l1_0.length c1_0, .slice A1_1 l1_1.length c1_1, .int .u64 a1_2, .int .u64 a1_3, .int .u64 a1_4, .int .u64 a1_5]] w fun e w' => e = .returned (.bool r) ∧ Below w.heap.size w w' := by
 have hu45 := Try.underlying45; have hu43 := Try.underlying43; have hu70 := Try.underlying70; have HR0_0 := mkA hr0_0; have HC0_0 := mkA hc0_0; clear hr0_0 hc0_0; have HR0_1 := mkA hr0_1; have HC0_1 := mkA hc0_1; clear hr0_1 hc0_1; have HR1_0 := mkA hr1_0; have HC1_0 := mkA hc1_0; clear hr1_0 hc1_0; have HR1_1 := mkA hr1_1; have HC1_1 := mkA hc1_1; clear hr1_1 hc1_1; have HB := mkA (Below.refl w.heap.size w); have H : (if (l0_0.length : Int) = (l1_0.length : Int) then (if (l0_1.length : Int) = (l1_1.length : Int) then (varveref10_Same.j0 k (!(a0_2 == a1_2) || (!(a0_3 == a1_3) || (!(a0_4 == a1_4) || (!(a0_5 == a1_5))))) l0_0 l0_1 a0_2 a0_3 a0_4 a0_5 l1_0 l1_1 a1_2 a1_3 a1_4 a1_5) else (varveref10_Same.j0 k true l0_0 l0_1 a0_2 a0_3 a0_4 a0_5 l1_0 l1_1 a1_2 a1_3 a1_4 a1_5)) else (varveref10_Same.j0 k true l0_0 l0_1 a0_2 a0_3 a0_4 a0_5 l1_0 l1_1 a1_2 a1_3 a1_4 a1_5)) = some r := h; clear h; have HC3 := mkA H; clear H; go_enter Try.func20, Try.ntmps20; go_upto_region 1 with (first | ((with_reducible refine gate_dst (N := 2) rfl ?_); (try (refine gate_guard zk50 ?_; dsimp only)); refine box_event ?hg (N := 2) ?hd (cs := #[.slice A0_0 l0_0.length c0_0, .slice A0_1 l0_1.length c0_1, .int .u64 a0_2, .int .u64 a0_3, .int .u64 a0_4, .int .u64 a0_5]) (t := 45) ?hr ?_; (case hd => exact zk50); (case hg => exact zk50); (case hr => exact zk26); intro gb137 hg w4 hbox hb; have n0_ := mkA (below_step zk1 hb); have n1_ := mkA (hbox); have n2_ := mkA ((by rw [hg]; exact (below_size zk1) : w.heap.size ≤ gb137)); have n3_ := mkA ((by rw [hg]; exact (below_size zk1) : w.heap.size ≤ gb137)); clear HB; have HB := n0_; have BK137 := n1_; have GW137 := n2_; have GE137 := n3_; clear n0_ n1_ n2_ n3_; clear hb hbox hg) | ((with_reducible refine gate_dst (N := 3) rfl ?_); (try (refine gate_guard zk50 ?_; dsimp only)); refine box_event ?hg (N := 3) ?hd (cs := #[.slice A1_0 l1_0.length c1_0, .slice A1_1 l1_1.length c1_1, .int .u64 a1_2, .int .u64 a1_3, .int .u64 a1_4, .int .u64 a1_5]) (t := 45) ?hr ?_; (case hd => exact zk50); (case hg => exact zk50); (case hr => exact zk26); intro gb138 hg w5 hbox hb; have n0_ := mkA (blk_below (g := gb137) (o := .cells #[.slice A0_0 l0_0.length c0_0, .slice A0_1 l0_1.length c0_1, .int .u64 a0_2, .int .u64 a0_3, .int .u64 a0_4, .int .u64 a0_5] 45 (0, 0)) zk34 hb); have n1_ := mkA (below_step zk42 hb); have n2_ := mkA (hbox); have n3_ := mkA ((by rw [hg]; exact (below_size zk42) : w.heap.size ≤ gb138)); have n4_ := mkA ((by rw [hg]; exact (below_size zk42) : w.heap.size ≤ gb138)); have n5_ := mkA ((by rw [hg]; exact Nat.ne_of_lt (blk_lt (g := gb137) (o := .cells #[.slice A0_0 l0_0.length c0_0, .slice A0_1 l0_1.length c0_1, .int .u64 a0_2, .int .u64 a0_3, .int .u64 a0_4, .int .u64 a0_5] 45 (0, 0)) zk34) : gb137 ≠ gb138)); have n6_ := mkA ((by rw [hg]; exact Nat.ne_of_gt (blk_lt (g := gb137) (o := .cells #[.slice A0_0 l0_0.length c0_0, .slice A0_1 l0_1.length c0_1, .int .u64 a0_2, .int .u64 a0_3, .int .u64 a0_4, .int .u64 a0_5] 45 (0, 0)) zk34) : gb138 ≠ gb137)); clear BK137; clear HB; have BK137 := n0_; have HB := n1_; have BK138 := n2_; have GW138 := n3_; have GE138 := n4_; have NB137_138 := n5_; have NB138_137 := n6_; clear n0_ n1_ n2_ n3_ n4_ n5_ n6_; clear hb hbox hg))
 (repeat (go_quiet (first | ((with_reducible refine gate_dst (N := 2) rfl ?_); (try (refine gate_guard zk50 ?_; dsimp only)); refine box_event ?hg (N := 2) ?hd (cs := #[.slice A0_0 l0_0.length c0_0, .slice A0_1 l0_1.length c0_1, .int .u64 a0_2, .int .u64 a0_3, .int .u64 a0_4, .int .u64 a0_5]) (t := 45) ?hr ?_; (case hd => exact zk50); (case hg => exact zk50); (case hr => exact zk26); intro gb137 hg w4 hbox hb; have n0_ := mkA (below_step zk1 hb); have n1_ := mkA (hbox); have n2_ := mkA ((by rw [hg]; exact (below_size zk1) : w.heap.size ≤ gb137)); have n3_ := mkA ((by rw [hg]; exact (below_size zk1) : w.heap.size ≤ gb137)); clear HB; have HB := n0_; have BK137 := n1_; have GW137 := n2_; have GE137 := n3_; clear n0_ n1_ n2_ n3_; clear hb hbox hg) | ((with_reducible refine gate_dst (N := 3) rfl ?_); (try (refine gate_guard zk50 ?_; dsimp only)); refine box_event ?hg (N := 3) ?hd (cs := #[.slice A1_0 l1_0.length c1_0, .slice A1_1 l1_1.length c1_1, .int .u64 a1_2, .int .u64 a1_3, .int .u64 a1_4, .int .u64 a1_5]) (t := 45) ?hr ?_; (case hd => exact zk50); (case hg => exact zk50); (case hr => exact zk26); intro gb138 hg w5 hbox hb; have n0_ := mkA (blk_below (g := gb137) (o := .cells #[.slice A0_0 l0_0.length c0_0, .slice A0_1 l0_1.length c0_1, .int .u64 a0_2, .int .u64 a0_3, .int .u64 a0_4, .int .u64 a0_5] 45 (0, 0)) zk34 hb); have n1_ := mkA (below_step zk42 hb); have n2_ := mkA (hbox); have n3_ := mkA ((by rw [hg]; exact (below_size zk42) : w.heap.size ≤ gb138)); have n4_ := mkA ((by rw [hg]; exact (below_size zk42) : w.heap.size ≤ gb138)); have n5_ := mkA ((by rw [hg]; exact Nat.ne_of_lt (blk_lt (g := gb137) (o := .cells #[.slice A0_0 l0_0.length c0_0, .slice A0_1 l0_1.length c0_1, .int .u64 a0_2, .int .u64 a0_3, .int .u64 a0_4, .int .u64 a0_5] 45 (0, 0)) zk34) : gb137 ≠ gb138)); have n6_ := mkA ((by rw [hg]; exact Nat.ne_of_gt (blk_lt (g := gb137) (o := .cells #[.slice A0_0 l0_0.length c0_0, .slice A0_1 l0_1.length c0_1, .int .u64 a0_2, .int .u64 a0_3, .int .u64 a0_4, .int .u64 a0_5] 45 (0, 0)) zk34) : gb138 ≠ gb137)); clear BK137; clear HB; have BK137 := n0_; have HB := n1_; have BK138 := n2_; have GW138 := n3_; have GE138 := n4_; have NB137_138 := n5_; have NB138_137 := n6_; clear n0_ n1_ n2_ n3_ n4_ n5_ n6_; clear hb hbox hg)); go_upto_region 1 with (first | ((with_reducible refine gate_dst (N := 2) rfl ?_); (try (refine gate_guard zk50 ?_; dsimp only)); refine box_event ?hg (N := 2) ?hd (cs := #[.slice A0_0 l0_0.length c0_0, .slice A0_1 l0_1.length c0_1, .int .u64 a0_2, .int .u64 a0_3, .int .u64 a0_4, .int .u64 a0_5]) (t := 45) ?hr ?_; (case hd => exact zk50); (case hg => exact zk50); (case hr => exact zk26); intro gb137 hg w4 hbox hb; have n0_ := mkA (below_step zk1 hb); have n1_ := mkA (hbox); have n2_ := mkA ((by rw [hg]; exact (below_size zk1) : w.heap.size ≤ gb137)); have n3_ := mkA ((by rw [hg]; exact (below_size zk1) : w.heap.size ≤ gb137)); clear HB; have HB := n0_; have BK137 := n1_; have GW137 := n2_; have GE137 := n3_; clear n0_ n1_ n2_ n3_; clear hb hbox hg) | ((with_reducible refine gate_dst (N := 3) rfl ?_); (try (refine gate_guard zk50 ?_; dsimp only)); refine box_event ?hg (N := 3) ?hd (cs := #[.slice A1_0 l1_0.length c1_0, .slice A1_1 l1_1.length c1_1, .int .u64 a1_2, .int .u64 a1_3, .int .u64 a1_4, .int .u64 a1_5]) (t := 45) ?hr ?_; (case hd => exact zk50); (case hg => exact zk50); (case hr => exact zk26); intro gb138 hg w5 hbox hb; have n0_ := mkA (blk_below (g := gb137) (o := .cells #[.slice A0_0 l0_0.length c0_0, .slice A0_1 l0_1.length c0_1, .int .u64 a0_2, .int .u64 a0_3, .int .u64 a0_4, .int .u64 a0_5] 45 (0, 0)) zk34 hb); have n1_ := mkA (below_step zk42 hb); have n2_ := mkA (hbox); have n3_ := mkA ((by rw [hg]; exact (below_size zk42) : w.heap.size ≤ gb138)); have n4_ := mkA ((by rw [hg]; exact (below_size zk42) : w.heap.size ≤ gb138)); have n5_ := mkA ((by rw [hg]; exact Nat.ne_of_lt (blk_lt (g := gb137) (o := .cells #[.slice A0_0 l0_0.length c0_0, .slice A0_1 l0_1.length c0_1, .int .u64 a0_2, .int .u64 a0_3, .int .u64 a0_4, .int .u64 a0_5] 45 (0, 0)) zk34) : gb137 ≠ gb138)); have n6_ := mkA ((by rw [hg]; exact Nat.ne_of_gt (blk_lt (g := gb137) (o := .cells #[.slice A0_0 l0_0.length c0_0, .slice A0_1 l0_1.length c0_1, .int .u64 a0_2, .int .u64 a0_3, .int .u64 a0_4, .int .u64 a0_5] 45 (0, 0)) zk34) : gb138 ≠ gb137)); clear BK137; clear HB; have BK137 := n0_; have HB := n1_; have BK138 := n2_; have GW138 := n3_; have GE138 := n4_; have NB137_138 := n5_; have NB138_137 := n6_; clear n0_ n1_ n2_ n3_ n4_ n5_ n6_; clear hb hbox hg)))); (try simp only [Act.put, List.setIfInBounds_toArray, List.set_cons_zero, List.set_cons_succ]); go_cut [29] (fun v29 wc => ∃ (kq : Nat) (x29_2 : Bool), v29 = .bool x29_2 ∧ Aside0 (varveref10_Same.j0 kq x29_2 l0_0 l0_1 a0_2 a0_3 a0_4 a0_5 l1_0 l1_1 a1_2 a1_3 a1_4 a1_5 = some r) ∧ Aside0 (kq ≤ k) ∧ Aside0 (wc.heap[gb137]? = some (.cells #[(.slice A0_0 l0_0.length c0_0), (.slice A0_1 l0_1.length c0_1), .int .u64 a0_2, .int .u64 a0_3, .int .u64 a0_4, .int .u64 a0_5] 45 (0, 0))) ∧ Aside0 (wc.heap[gb138]? = some (.cells #[(.slice A1_0 l1_0.length c1_0), (.slice A1_1 l1_1.length c1_1), .int .u64 a1_2, .int .u64 a1_3, .int .u64 a1_4, .int .u64 a1_5] 45 (0, 0))) ∧ Aside0 (Below w.heap.size w wc))
 case first =>
  have H := HC3.out; clear HC3; by_cases c6 : (l0_0.length : Int) = (l1_0.length : Int)
  ·rw [if_pos c6] at H
   have c6b0 : ((l0_0.length : Int) == (l1_0.length : Int)) = true := beq_iff_eq.mpr c6; have c6b1 : ((l0_0.length : Int) != (l1_0.length : Int)) = false := bne_eq_false_iff_eq.mpr c6; have c6b2 : (l0_0.length == l1_0.length) = true := by first | simpa using c6 | (simp at c6 ⊢; omega)
   clear c6; (first | rw [c6b0] | (simp only [i64_w, i32_w]; rw [c6b0]) | skip); by_cases c7 : (l0_1.length : Int) = (l1_1.length : Int)
   ·rw [if_pos c7] at H
    have c7b0 : ((l0_1.length : Int) == (l1_1.length : Int)) = true := beq_iff_eq.mpr c7; have c7b1 : ((l0_1.length : Int) != (l1_1.length : Int)) = false := bne_eq_false_iff_eq.mpr c7; have c7b2 : (l0_1.length == l1_1.length) = true := by first | simpa using c7 | (simp at c7 ⊢; omega)
    clear c7; have H' := mkA H; clear H; have hnb8 := NB137_138.out; have hnc8 := NB138_137.out; obtain ⟨hcz9_0, hcz9_1, hcz9_2, hcz9_3, hcz9_4, hcz9_5, hfz9_0, hfz9_1, hfz9_2, hfz9_3, hfz9_4, hfz9_5⟩ := cf6 BK137.out; obtain ⟨hcz10_0, hcz10_1, hcz10_2, hcz10_3, hcz10_4, hcz10_5, hfz10_0, hfz10_1, hfz10_2, hfz10_3, hfz10_4, hfz10_5⟩ := cf6 BK138.out; go_wp2; (repeat (go_quiet (fail); try go_wp2)); go_meet
    case rel => exact ⟨_, ((!(a0_2 == a1_2) || (!(a0_3 == a1_3) || (!(a0_4 == a1_4) || (!(a0_5 == a1_5)))))), zk14, H', ⟨zk122⟩, ⟨zk34⟩, ⟨zk75⟩, ⟨zk28⟩⟩
   ·rw [if_neg c7] at H
    have c7b0 : ((l0_1.length : Int) == (l1_1.length : Int)) = false := beq_eq_false_iff_ne.mpr c7; have c7b1 : ((l0_1.length : Int) != (l1_1.length : Int)) = true := bne_iff_ne.mpr c7; have c7b2 : (l0_1.length == l1_1.length) = false := by first | simpa using c7 | (simp at c7 ⊢; omega)
    have H' := mkA H; clear H; have hnb11 := NB137_138.out; have hnc11 := NB138_137.out; obtain ⟨hcz12_0, hcz12_1, hcz12_2, hcz12_3, hcz12_4, hcz12_5, hfz12_0, hfz12_1, hfz12_2, hfz12_3, hfz12_4, hfz12_5⟩ := cf6 BK137.out; obtain ⟨hcz13_0, hcz13_1, hcz13_2, hcz13_3, hcz13_4, hcz13_5, hfz13_0, hfz13_1, hfz13_2, hfz13_3, hfz13_4, hfz13_5⟩ := cf6 BK138.out; go_wp2; (repeat (go_quiet (fail); try go_wp2)); go_meet
    case rel => exact ⟨_, (true), zk14, H', ⟨zk122⟩, ⟨zk34⟩, ⟨zk75⟩, ⟨zk28⟩⟩
  ·rw [if_neg c6] at H
   have c6b0 : ((l0_0.length : Int) == (l1_0.length : Int)) = false := beq_eq_false_iff_ne.mpr c6; have c6b1 : ((l0_0.length : Int) != (l1_0.length : Int)) = true := bne_iff_ne.mpr c6; have c6b2 : (l0_0.length == l1_0.length) = false := by first | simpa using c6 | (simp at c6 ⊢; omega)
   (first | rw [c6b0] | (simp only [i64_w, i32_w]; rw [c6b0]) | skip); have H' := mkA H; clear H; have hnb14 := NB137_138.out; have hnc14 := NB138_137.out; obtain ⟨hcz15_0, hcz15_1, hcz15_2, hcz15_3, hcz15_4, hcz15_5, hfz15_0, hfz15_1, hfz15_2, hfz15_3, hfz15_4, hfz15_5⟩ := cf6 BK137.out; obtain ⟨hcz16_0, hcz16_1, hcz16_2, hcz16_3, hcz16_4, hcz16_5, hfz16_0, hfz16_1, hfz16_2, hfz16_3, hfz16_4, hfz16_5⟩ := cf6 BK138.out; go_wp2; (repeat (go_quiet (fail); try go_wp2)); go_meet
   case rel => exact ⟨_, (true), zk14, H', ⟨zk122⟩, ⟨zk34⟩, ⟨zk75⟩, ⟨zk28⟩⟩
 case rest =>
  clear HC3; (try clear c1); (try clear c2); (try clear p2); (try clear c6); (try clear c6b0); (try clear c6b1); (try clear c6b2); (try clear c7); (try clear c7b0); (try clear c7b1); (try clear c7b2); (try clear c8); (try clear c11); (try clear c14); (try clear hcz10_0); (try clear hcz10_1); (try clear hcz10_2); (try clear hcz10_3); (try clear hcz10_4); (try clear hcz10_5); (try clear hcz12_0); (try clear hcz12_1); (try clear hcz12_2); (try clear hcz12_3); (try clear hcz12_4); (try clear hcz12_5); (try clear hcz13_0); (try clear hcz13_1); (try clear hcz13_2); (try clear hcz13_3); (try clear hcz13_4); (try clear hcz13_5); (try clear hcz15_0); (try clear hcz15_1); (try clear hcz15_2); (try clear hcz15_3); (try clear hcz15_4); (try clear hcz15_5); (try clear hcz16_0); (try clear hcz16_1); (try clear hcz16_2); (try clear hcz16_3); (try clear hcz16_4); (try clear hcz16_5); (try clear hcz9_0); (try clear hcz9_1); (try clear hcz9_2); (try clear hcz9_3); (try clear hcz9_4); (try clear hcz9_5); (try clear hfz10_0); (try clear hfz10_1); (try clear hfz10_2); (try clear hfz10_3); (try clear hfz10_4); (try clear hfz10_5); (try clear hfz12_0); (try clear hfz12_1); (try clear hfz12_2); (try clear hfz12_3); (try clear hfz12_4); (try clear hfz12_5); (try clear hfz13_0); (try clear hfz13_1); (try clear hfz13_2); (try clear hfz13_3); (try clear hfz13_4); (try clear hfz13_5); (try clear hfz15_0); (try clear hfz15_1); (try clear hfz15_2); (try clear hfz15_3); (try clear hfz15_4); (try clear hfz15_5); (try clear hfz16_0); (try clear hfz16_1); (try clear hfz16_2); (try clear hfz16_3); (try clear hfz16_4); (try clear hfz16_5); (try clear hfz9_0); (try clear hfz9_1); (try clear hfz9_2); (try clear hfz9_3); (try clear hfz9_4); (try clear hfz9_5); obtain ⟨kq, x29_2, rfl, HA, HJ2, BK137, BK138, HB⟩ := hcut
  cases kq with
  | zero => exact absurd HA.out (by simp [varveref10_Same.j0])
  | succ kj2 =>
   have H := HA.out; clear HA; simp only [varveref10_Same.j0] at H; by_cases c17 : x29_2 = true
   ·subst c17
    have H1 : (some false) = some r := zk76
    clear H; have H := H1; clear H1; obtain rfl := Option.some.inj H; go_wp2; (repeat (go_quiet (fail); try go_wp2)); go_ret
    exact ⟨zk7, zk28⟩
   ·replace c17 := Bool.eq_false_iff.mpr c17
    subst c17; have H1 : (varveref10_Same.l0 kj2 0 l0_0 l0_1 a0_2 a0_3 a0_4 a0_5 l1_0 l1_1 a1_2 a1_3 a1_4 a1_5) = some r := zk41
    clear H; have H := H1; clear H1; have H' := mkA H; clear H; go_wp2; (repeat (go_quiet (fail); try go_wp2)); go_loopg [5] kj2 (fun kq v5 w' => ∃ (x5_2 : Int), v5 = .int .i64 x5_2 ∧ Aside0 (varveref10_Same.l0 kq x5_2 l0_0 l0_1 a0_2 a0_3 a0_4 a0_5 l1_0 l1_1 a1_2 a1_3 a1_4 a1_5 = some r) ∧ Aside0 (kq ≤ kj2) ∧ Aside0 (w'.heap[gb137]? = some (.cells #[(.slice A0_0 l0_0.length c0_0), (.slice A0_1 l0_1.length c0_1), .int .u64 a0_2, .int .u64 a0_3, .int .u64 a0_4, .int .u64 a0_5] 45 (0, 0))) ∧ Aside0 (w'.heap[gb138]? = some (.cells #[(.slice A1_0 l1_0.length c1_0), (.slice A1_1 l1_1.length c1_1), .int .u64 a1_2, .int .u64 a1_3, .int .u64 a1_4, .int .u64 a1_5] 45 (0, 0))) ∧ Aside0 (Below w.heap.size w w'))
    case atStart => exact ⟨(0), zk14, H', ⟨Nat.le_refl _⟩, ⟨zk34⟩, ⟨zk75⟩, ⟨zk28⟩⟩
    case round =>
     clear H'; (try clear c1); (try clear c2); (try clear p2); (try clear c6); (try clear c6b0); (try clear c6b1); (try clear c6b2); (try clear c7); (try clear c7b0); (try clear c7b1); (try clear c7b2); (try clear c8); (try clear c11); (try clear c14); (try clear c17); (try clear hcz10_0); (try clear hcz10_1); (try clear hcz10_2); (try clear hcz10_3); (try clear hcz10_4); (try clear hcz10_5); (try clear hcz12_0); (try clear hcz12_1); (try clear hcz12_2); (try clear hcz12_3); (try clear hcz12_4); (try clear hcz12_5); (try clear hcz13_0); (try clear hcz13_1); (try clear hcz13_2); (try clear hcz13_3); (try clear hcz13_4); (try clear hcz13_5); (try clear hcz15_0); (try clear hcz15_1); (try clear hcz15_2); (try clear hcz15_3); (try clear hcz15_4); (try clear hcz15_5); (try clear hcz16_0); (try clear hcz16_1); (try clear hcz16_2); (try clear hcz16_3); (try clear hcz16_4); (try clear hcz16_5); (try clear hcz9_0); (try clear hcz9_1); (try clear hcz9_2); (try clear hcz9_3); (try clear hcz9_4); (try clear hcz9_5); (try clear hfz10_0); (try clear hfz10_1); (try clear hfz10_2); (try clear hfz10_3); (try clear hfz10_4); (try clear hfz10_5); (try clear hfz12_0); (try clear hfz12_1); (try clear hfz12_2); (try clear hfz12_3); (try clear hfz12_4); (try clear hfz12_5); (try clear hfz13_0); (try clear hfz13_1); (try clear hfz13_2); (try clear hfz13_3); (try clear hfz13_4); (try clear hfz13_5); (try clear hfz15_0); (try clear hfz15_1); (try clear hfz15_2); (try clear hfz15_3); (try clear hfz15_4); (try clear hfz15_5); (try clear hfz16_0); (try clear hfz16_1); (try clear hfz16_2); (try clear hfz16_3); (try clear hfz16_4); (try clear hfz16_5); (try clear hfz9_0); (try clear hfz9_1); (try clear hfz9_2); (try clear hfz9_3); (try clear hfz9_4); (try clear hfz9_5); (try clear p2); obtain ⟨x5_2, rfl, HA, HK2, BK137, BK138, HB⟩ := hrel
     cases gk with
     | zero => exact absurd HA.out (by simp [varveref10_Same.l0])
     | succ k2 =>
      have H := HA.out; clear HA; simp only [varveref10_Same.l0] at H; by_cases c18 : x5_2 < (l0_0.length : Int)
      ·rw [if_pos c18] at H
       have c18b0 : decide (x5_2 < (l0_0.length : Int)) = true := decide_eq_true c18; clear c18; by_cases c19 : 0 ≤ x5_2
       ·rw [if_pos c19] at H
        have c19b0 : decide (0 ≤ x5_2) = true := decide_eq_true c19; clear c19; by_cases c20 : x5_2 < (l1_0.length : Int)
        ·rw [if_pos c20] at H
         have c20b0 : decide (x5_2 < (l1_0.length : Int)) = true := decide_eq_true c20; clear c20; by_cases c21 : (!(((rd_T70 l0_0 x5_2).f0) == ((rd_T70 l1_0 x5_2).f0)) || (!(((rd_T70 l0_0 x5_2).f1) == ((rd_T70 l1_0 x5_2).f1)))) = true
         ·rw [if_pos c21] at H
          have c21b0 : (!(((rd_T70 l0_0 x5_2).f0) == ((rd_T70 l1_0 x5_2).f0)) || (!(((rd_T70 l0_0 x5_2).f1) == ((rd_T70 l1_0 x5_2).f1)))) = true := c21; clear c21; obtain rfl := Option.some.inj H; have hnb22 := NB137_138.out; have hnc22 := NB138_137.out; obtain ⟨hcz23_0, hcz23_1, hcz23_2, hcz23_3, hcz23_4, hcz23_5, hfz23_0, hfz23_1, hfz23_2, hfz23_3, hfz23_4, hfz23_5⟩ := cf6 BK137.out; have p139 : 0 ≤ (x5_2 : Int) := of_decide_eq_true zk8; have q139 : x5_2 < (l0_0.length : Int) := of_decide_eq_true zk8; obtain ⟨ad139, e139, hx139_0, hx139_1⟩ := at_T70 HR0_0.out x5_2 p139 q139; cases e139; replace hx139_0 := (HB.out.cell (World.block_lt_of_cell? w _ hx139_0)).trans hx139_0; replace hx139_1 := (HB.out.cell (World.block_lt_of_cell? w _ hx139_1)).trans hx139_1; replace p139 := eq_true p139; replace q139 := eq_true q139; obtain ⟨hcz24_0, hcz24_1, hcz24_2, hcz24_3, hcz24_4, hcz24_5, hfz24_0, hfz24_1, hfz24_2, hfz24_3, hfz24_4, hfz24_5⟩ := cf6 BK138.out; have p140 : 0 ≤ (x5_2 : Int) := of_decide_eq_true zk8; have q140 : x5_2 < (l1_0.length : Int) := of_decide_eq_true zk8; obtain ⟨ad140, e140, hx140_0, hx140_1⟩ := at_T70 HR1_0.out x5_2 p140 q140; cases e140; replace hx140_0 := (HB.out.cell (World.block_lt_of_cell? w _ hx140_0)).trans hx140_0; replace hx140_1 := (HB.out.cell (World.block_lt_of_cell? w _ hx140_1)).trans hx140_1; replace p140 := eq_true p140; replace q140 := eq_true q140; go_wp2; (repeat (go_quiet (fail); try go_wp2)); go_ret
          exact ⟨zk7, zk28⟩
         ·rw [if_neg c21] at H
          have c21b0 : (!(((rd_T70 l0_0 x5_2).f0) == ((rd_T70 l1_0 x5_2).f0)) || (!(((rd_T70 l0_0 x5_2).f1) == ((rd_T70 l1_0 x5_2).f1)))) = false := by simpa using c21
          clear c21; have H' := mkA H; clear H; have hnb25 := NB137_138.out; have hnc25 := NB138_137.out; obtain ⟨hcz26_0, hcz26_1, hcz26_2, hcz26_3, hcz26_4, hcz26_5, hfz26_0, hfz26_1, hfz26_2, hfz26_3, hfz26_4, hfz26_5⟩ := cf6 BK137.out; have p139 : 0 ≤ (x5_2 : Int) := of_decide_eq_true zk8; have q139 : x5_2 < (l0_0.length : Int) := of_decide_eq_true zk8; obtain ⟨ad139, e139, hx139_0, hx139_1⟩ := at_T70 HR0_0.out x5_2 p139 q139; cases e139; replace hx139_0 := (HB.out.cell (World.block_lt_of_cell? w _ hx139_0)).trans hx139_0; replace hx139_1 := (HB.out.cell (World.block_lt_of_cell? w _ hx139_1)).trans hx139_1; replace p139 := eq_true p139; replace q139 := eq_true q139; obtain ⟨hcz27_0, hcz27_1, hcz27_2, hcz27_3, hcz27_4, hcz27_5, hfz27_0, hfz27_1, hfz27_2, hfz27_3, hfz27_4, hfz27_5⟩ := cf6 BK138.out; have p140 : 0 ≤ (x5_2 : Int) := of_decide_eq_true zk8; have q140 : x5_2 < (l1_0.length : Int) := of_decide_eq_true zk8; obtain ⟨ad140, e140, hx140_0, hx140_1⟩ := at_T70 HR1_0.out x5_2 p140 q140; cases e140; replace hx140_0 := (HB.out.cell (World.block_lt_of_cell? w _ hx140_0)).trans hx140_0; replace hx140_1 := (HB.out.cell (World.block_lt_of_cell? w _ hx140_1)).trans hx140_1; replace p140 := eq_true p140; replace q140 := eq_true q140; go_wp2; (repeat (go_quiet (fail); try go_wp2)); go_roundg k2
          case measure => have := HJ2.out; have := HK2.out; omega
          case rel => exact ⟨(wrap64 (x5_2 + 1)), zk14, H', ⟨by have := HJ2.out; have := HK2.out; omega⟩, ⟨zk34⟩, ⟨zk75⟩, ⟨zk28⟩⟩
        ·rw [if_neg c20] at H; exact absurd H zk56
       ·rw [if_neg c19] at H; exact absurd H zk56
      ·rw [if_neg c18] at H
       have c18b0 : decide (x5_2 < (l0_0.length : Int)) = false := decide_eq_false c18; clear c18; have H' := mkA H; clear H; have hnb28 := NB137_138.out; have hnc28 := NB138_137.out; obtain ⟨hcz29_0, hcz29_1, hcz29_2, hcz29_3, hcz29_4, hcz29_5, hfz29_0, hfz29_1, hfz29_2, hfz29_3, hfz29_4, hfz29_5⟩ := cf6 BK137.out; go_wp2; (repeat (go_quiet (fail); try go_wp2)); go_loopg [6] k2 (fun kq v6 w' => ∃ (x6_3 : Int), v6 = .int .i64 x6_3 ∧ Aside0 (varveref10_Same.l1 kq x6_3 l0_0 l0_1 a0_2 a0_3 a0_4 a0_5 l1_0 l1_1 a1_2 a1_3 a1_4 a1_5 = some r) ∧ Aside0 (kq ≤ k2) ∧ Aside0 (w'.heap[gb137]? = some (.cells #[(.slice A0_0 l0_0.length c0_0), (.slice A0_1 l0_1.length c0_1), .int .u64 a0_2, .int .u64 a0_3, .int .u64 a0_4, .int .u64 a0_5] 45 (0, 0))) ∧ Aside0 (w'.heap[gb138]? = some (.cells #[(.slice A1_0 l1_0.length c1_0), (.slice A1_1 l1_1.length c1_1), .int .u64 a1_2, .int .u64 a1_3, .int .u64 a1_4, .int .u64 a1_5] 45 (0, 0))) ∧ Aside0 (Below w.heap.size w w'))
       case atStart => exact ⟨(0), zk14, H', ⟨Nat.le_refl _⟩, ⟨zk34⟩, ⟨zk75⟩, ⟨zk28⟩⟩
       case round =>
        clear H'; (try clear c1); (try clear p1); (try clear q1); (try clear hx1); (try clear c2); (try clear p2); (try clear c6); (try clear c6b0); (try clear c6b1); (try clear c6b2); (try clear p6); (try clear c7); (try clear c7b0); (try clear c7b1); (try clear c7b2); (try clear c8); (try clear c11); (try clear p13); (try clear q13); (try clear hx13); (try clear c14); (try clear p14); (try clear q14); (try clear hx14); (try clear c17); (try clear c18); (try clear c18b0); (try clear c19); (try clear c19b0); (try clear c20); (try clear c20b0); (try clear c21); (try clear c21b0); (try clear c22); (try clear c25); (try clear c28); (try clear hcz10_0); (try clear hcz10_1); (try clear hcz10_2); (try clear hcz10_3); (try clear hcz10_4); (try clear hcz10_5); (try clear hcz12_0); (try clear hcz12_1); (try clear hcz12_2); (try clear hcz12_3); (try clear hcz12_4); (try clear hcz12_5); (try clear hcz13_0); (try clear hcz13_1); (try clear hcz13_2); (try clear hcz13_3); (try clear hcz13_4); (try clear hcz13_5); (try clear hcz15_0); (try clear hcz15_1); (try clear hcz15_2); (try clear hcz15_3); (try clear hcz15_4); (try clear hcz15_5); (try clear hcz16_0); (try clear hcz16_1); (try clear hcz16_2); (try clear hcz16_3); (try clear hcz16_4); (try clear hcz16_5); (try clear hcz23_0); (try clear hcz23_1); (try clear hcz23_2); (try clear hcz23_3); (try clear hcz23_4); (try clear hcz23_5); (try clear hcz24_0); (try clear hcz24_1); (try clear hcz24_2); (try clear hcz24_3); (try clear hcz24_4); (try clear hcz24_5); (try clear hcz26_0); (try clear hcz26_1); (try clear hcz26_2); (try clear hcz26_3); (try clear hcz26_4); (try clear hcz26_5); (try clear hcz27_0); (try clear hcz27_1); (try clear hcz27_2); (try clear hcz27_3); (try clear hcz27_4); (try clear hcz27_5); (try clear hcz29_0); (try clear hcz29_1); (try clear hcz29_2); (try clear hcz29_3); (try clear hcz29_4); (try clear hcz29_5); (try clear hcz9_0); (try clear hcz9_1); (try clear hcz9_2); (try clear hcz9_3); (try clear hcz9_4); (try clear hcz9_5); (try clear hfz10_0); (try clear hfz10_1); (try clear hfz10_2); (try clear hfz10_3); (try clear hfz10_4); (try clear hfz10_5); (try clear hfz12_0); (try clear hfz12_1); (try clear hfz12_2); (try clear hfz12_3); (try clear hfz12_4); (try clear hfz12_5); (try clear hfz13_0); (try clear hfz13_1); (try clear hfz13_2); (try clear hfz13_3); (try clear hfz13_4); (try clear hfz13_5); (try clear hfz15_0); (try clear hfz15_1); (try clear hfz15_2); (try clear hfz15_3); (try clear hfz15_4); (try clear hfz15_5); (try clear hfz16_0); (try clear hfz16_1); (try clear hfz16_2); (try clear hfz16_3); (try clear hfz16_4); (try clear hfz16_5); (try clear hfz23_0); (try clear hfz23_1); (try clear hfz23_2); (try clear hfz23_3); (try clear hfz23_4); (try clear hfz23_5); (try clear hfz24_0); (try clear hfz24_1); (try clear hfz24_2); (try clear hfz24_3); (try clear hfz24_4); (try clear hfz24_5); (try clear hfz26_0); (try clear hfz26_1); (try clear hfz26_2); (try clear hfz26_3); (try clear hfz26_4); (try clear hfz26_5); (try clear hfz27_0); (try clear hfz27_1); (try clear hfz27_2); (try clear hfz27_3); (try clear hfz27_4); (try clear hfz27_5); (try clear hfz29_0); (try clear hfz29_1); (try clear hfz29_2); (try clear hfz29_3); (try clear hfz29_4); (try clear hfz29_5); (try clear hfz9_0); (try clear hfz9_1); (try clear hfz9_2); (try clear hfz9_3); (try clear hfz9_4); (try clear hfz9_5); (try clear hx139_0); (try clear hx139_1); (try clear hx140_0); (try clear hx140_1); (try clear p139); (try clear p140); (try clear p2); (try clear q139); (try clear q140); obtain ⟨x6_3, rfl, HA, HK3, BK137, BK138, HB⟩ := hrel
        cases gk with
        | zero => exact absurd HA.out (by simp [varveref10_Same.l1])
        | succ k3 =>
         have H := HA.out; clear HA; simp only [varveref10_Same.l1] at H; by_cases c30 : x6_3 < (l0_1.length : Int)
         ·rw [if_pos c30] at H
          have c30b0 : decide (x6_3 < (l0_1.length : Int)) = true := decide_eq_true c30; clear c30; by_cases c31 : 0 ≤ x6_3
          ·rw [if_pos c31] at H
           have c31b0 : decide (0 ≤ x6_3) = true := decide_eq_true c31; clear c31; by_cases c32 : x6_3 < (l1_1.length : Int)
           ·rw [if_pos c32] at H
            have c32b0 : decide (x6_3 < (l1_1.length : Int)) = true := decide_eq_true c32; clear c32; by_cases c33 : (rd l0_1 x6_3) = (rd l1_1 x6_3)
            ·rw [if_pos c33] at H
             have c33b0 : ((rd l0_1 x6_3) == (rd l1_1 x6_3)) = true := beq_iff_eq.mpr c33; have c33b1 : ((rd l0_1 x6_3) != (rd l1_1 x6_3)) = false := bne_eq_false_iff_eq.mpr c33; clear c33; have H' := mkA H; clear H; have hnb34 := NB137_138.out; have hnc34 := NB138_137.out; obtain ⟨hcz35_0, hcz35_1, hcz35_2, hcz35_3, hcz35_4, hcz35_5, hfz35_0, hfz35_1, hfz35_2, hfz35_3, hfz35_4, hfz35_5⟩ := cf6 BK137.out; have p141 : 0 ≤ (x6_3 : Int) := of_decide_eq_true zk8; have q141 : x6_3 < (l0_1.length : Int) := of_decide_eq_true zk8; obtain ⟨ad141, e141, hx141_0⟩ := Kd.at_int HR0_1.out x6_3 p141 q141; cases e141; replace hx141_0 := (HB.out.cell (World.block_lt_of_cell? w _ hx141_0)).trans hx141_0; replace p141 := eq_true p141; replace q141 := eq_true q141; obtain ⟨hcz36_0, hcz36_1, hcz36_2, hcz36_3, hcz36_4, hcz36_5, hfz36_0, hfz36_1, hfz36_2, hfz36_3, hfz36_4, hfz36_5⟩ := cf6 BK138.out; have p142 : 0 ≤ (x6_3 : Int) := of_decide_eq_true zk8; have q142 : x6_3 < (l1_1.length : Int) := of_decide_eq_true zk8; obtain ⟨ad142, e142, hx142_0⟩ := Kd.at_int HR1_1.out x6_3 p142 q142; cases e142; replace hx142_0 := (HB.out.cell (World.block_lt_of_cell? w _ hx142_0)).trans hx142_0; replace p142 := eq_true p142; replace q142 := eq_true q142; go_wp2; (repeat (go_quiet (fail); try go_wp2)); go_roundg k3
             case measure => have := HJ2.out; have := HK2.out; have := HK3.out; omega
             case rel => exact ⟨(wrap64 (x6_3 + 1)), zk14, H', ⟨by have := HJ2.out; have := HK2.out; have := HK3.out; omega⟩, ⟨zk34⟩, ⟨zk75⟩, ⟨zk28⟩⟩
            ·rw [if_neg c33] at H
             have c33b0 : ((rd l0_1 x6_3) == (rd l1_1 x6_3)) = false := beq_eq_false_iff_ne.mpr c33; have c33b1 : ((rd l0_1 x6_3) != (rd l1_1 x6_3)) = true := bne_iff_ne.mpr c33; obtain rfl := Option.some.inj H; have hnb37 := NB137_138.out; have hnc37 := NB138_137.out; obtain ⟨hcz38_0, hcz38_1, hcz38_2, hcz38_3, hcz38_4, hcz38_5, hfz38_0, hfz38_1, hfz38_2, hfz38_3, hfz38_4, hfz38_5⟩ := cf6 BK137.out; have p141 : 0 ≤ (x6_3 : Int) := of_decide_eq_true zk8; have q141 : x6_3 < (l0_1.length : Int) := of_decide_eq_true zk8; obtain ⟨ad141, e141, hx141_0⟩ := Kd.at_int HR0_1.out x6_3 p141 q141; cases e141; replace hx141_0 := (HB.out.cell (World.block_lt_of_cell? w _ hx141_0)).trans hx141_0; replace p141 := eq_true p141; replace q141 := eq_true q141; obtain ⟨hcz39_0, hcz39_1, hcz39_2, hcz39_3, hcz39_4, hcz39_5, hfz39_0, hfz39_1, hfz39_2, hfz39_3, hfz39_4, hfz39_5⟩ := cf6 BK138.out; have p142 : 0 ≤ (x6_3 : Int) := of_decide_eq_true zk8; have q142 : x6_3 < (l1_1.length : Int) := of_decide_eq_true zk8; obtain ⟨ad142, e142, hx142_0⟩ := Kd.at_int HR1_1.out x6_3 p142 q142; cases e142; replace hx142_0 := (HB.out.cell (World.block_lt_of_cell? w _ hx142_0)).trans hx142_0; replace p142 := eq_true p142; replace q142 := eq_true q142; go_wp2; (repeat (go_quiet (fail); try go_wp2)); go_ret
             exact ⟨zk7, zk28⟩
           ·rw [if_neg c32] at H; exact absurd H zk56
          ·rw [if_neg c31] at H; exact absurd H zk56
         ·rw [if_neg c30] at H
          have c30b0 : decide (x6_3 < (l0_1.length : Int)) = false := decide_eq_false c30; clear c30; obtain rfl := Option.some.inj H; have hnb40 := NB137_138.out; have hnc40 := NB138_137.out; obtain ⟨hcz41_0, hcz41_1, hcz41_2, hcz41_3, hcz41_4, hcz41_5, hfz41_0, hfz41_1, hfz41_2, hfz41_3, hfz41_4, hfz41_5⟩ := cf6 BK137.out; go_wp2; (repeat (go_quiet (fail); try go_wp2)); go_ret
          exact ⟨zk7, zk28⟩
end Go.Proofs.Ytplgffbfepnihaa.Ga
namespace Go.Proofs.Ytplgffbfepnihaa.Ga
open Go.RowKit Go.Proofs.YtplgffbfepnihaaW.PrintWords Go.Proofs.YtplgffbfepnihaaW.PrintLast Go.Proofs.YtplgffbfepnihaaW.PrintMore Go.Proofs.Ytplgffbfepnihaa.Hi Go.Proofs.Ytplgffbfepnihaa.Q Go.Proofs.Ytplgffbfepnihaa.Gb
def pair_Check.f (k : Nat) (l0_0 : List (S70)) (l0_1 : List Int) (a0_2 : Int) (a0_3 : Int) (a0_4 : Int) (a0_5 : Int) : Option (Bool) := (hist_Check.f k l0_0).bind fun t148 => (if t148 = true then ((kmv_Check.f k l0_1).bind fun t149 => (if t149 = true then ((gauge_Check.f a0_2 a0_3 a0_4 a0_5).bind fun t150 => (some t150)) else (some false))) else (some false))
end Go.Proofs.Ytplgffbfepnihaa.Ga
namespace Go.Proofs.Ytplgffbfepnihaa.Ga
open Go.RowKit Go.Proofs.YtplgffbfepnihaaW.PrintWords Go.Proofs.YtplgffbfepnihaaW.PrintLast Go.Proofs.YtplgffbfepnihaaW.PrintMore Go.Proofs.Ytplgffbfepnihaa.Hi Go.Proofs.Ytplgffbfepnihaa.Q Go.Proofs.Ytplgffbfepnihaa.Gb
def varveref10_Check.f (k : Nat) (l0_0 : List (S70)) (l0_1 : List Int) (a0_2 : Int) (a0_3 : Int) (a0_4 : Int) (a0_5 : Int) : Option (Bool) := (varveref07_Check.f k l0_0).bind fun t159 => (if t159 = true then ((varveref08_Check.f k l0_1).bind fun t160 => (if t160 = true then ((varveref09_Check.f k a0_2 a0_3 a0_4 a0_5).bind fun t161 => (some t161)) else (some false))) else (some false))
set_option maxHeartbeats 8000000 in
set_option maxRecDepth 100000 in
theorem varveref10_Check.calls (k : Nat) (A0_0 : Option Addr) (c0_0 : Nat) (l0_0 : List (S70)) (A0_1 : Option Addr) (c0_1 : Nat) (l0_1 : List Int) (a0_2 : Int) (a0_3 : Int) (a0_4 : Int) (a0_5 : Int) (r : Bool) (w : World) (hr0_0 : Kd.C k70 w A0_0 l0_0.length l0_0) (hc0_0 : l0_0.length ≤ c0_0) (hr0_1 : Kd.C (Kd.int .u64) w A0_1 l0_1.length l0_1) (hc0_1 : l0_1.length ≤ c0_1) (h : varveref10_Check.f k l0_0 l0_1 a0_2 a0_3 a0_4 a0_5 = some r) :
  Calls Try.prog 32 #[.agg #[.slice A0_0 l0_0.length c0_0, .slice A0_1 l0_1.length c0_1, .int .u64 a0_2, .int .u64 a0_3, .int .u64 a0_4, .int .u64 a0_5]] w fun e w' => e = .returned (.bool r) ∧ Below w.heap.size w w' := by
 have hu45 := Try.underlying45; have hu43 := Try.underlying43; have HR0_0 := mkA hr0_0; have HC0_0 := mkA hc0_0; clear hr0_0 hc0_0; have HR0_1 := mkA hr0_1; have HC0_1 := mkA hc0_1; clear hr0_1 hc0_1; have HB := mkA (Below.refl w.heap.size w); have H : ((varveref07_Check.f k l0_0).bind fun t159 => (if t159 = true then ((varveref08_Check.f k l0_1).bind fun t160 => (if t160 = true then ((varveref09_Check.f k a0_2 a0_3 a0_4 a0_5).bind fun t161 => (some t161)) else (some false))) else (some false))) = some r := h; clear h; replace H := Option.bind_eq_some_iff.mp H; obtain ⟨t159, A20, H⟩ := H; replace H : (if t159 = true then ((varveref08_Check.f k l0_1).bind fun t160 => (if t160 = true then ((varveref09_Check.f k a0_2 a0_3 a0_4 a0_5).bind fun t161 => (some t161)) else (some false))) else (some false)) = some r := H; have A2 := mkA A20; clear A20; by_cases c3 : t159 = true
 ·subst c3
  have H1 : ((varveref08_Check.f k l0_1).bind fun t160 => (if t160 = true then ((varveref09_Check.f k a0_2 a0_3 a0_4 a0_5).bind fun t161 => (some t161)) else (some false))) = some r := zk76
  clear H; have H := H1; clear H1; replace H := Option.bind_eq_some_iff.mp H; obtain ⟨t160, A40, H⟩ := H; replace H : (if t160 = true then ((varveref09_Check.f k a0_2 a0_3 a0_4 a0_5).bind fun t161 => (some t161)) else (some false)) = some r := H; have A4 := mkA A40; clear A40; by_cases c5 : t160 = true
  ·subst c5
   have H1 : ((varveref09_Check.f k a0_2 a0_3 a0_4 a0_5).bind fun t161 => (some t161)) = some r := zk76
   clear H; have H := H1; clear H1; replace H := Option.bind_eq_some_iff.mp H; obtain ⟨t161, A60, H⟩ := H; replace H : (some t161) = some r := H; have A6 := mkA A60; clear A60; obtain rfl := Option.some.inj H; go_enter Try.func32, Try.ntmps32; (go_wp2_with (first | ((with_reducible refine gate_dst (N := 1) rfl ?_); refine box_event ?hg (N := 1) ?hd (cs := #[.slice A0_0 l0_0.length c0_0, .slice A0_1 l0_1.length c0_1, .int .u64 a0_2, .int .u64 a0_3, .int .u64 a0_4, .int .u64 a0_5]) (t := 45) ?hr ?_; (case hd => exact zk50); (case hg => exact zk50); (case hr => exact zk26); intro gb158 hg w7 hbox hb; have n0_ := mkA (below_step zk1 hb); have n1_ := mkA (hbox); have n2_ := mkA ((by rw [hg]; exact (below_size zk1) : w.heap.size ≤ gb158)); have n3_ := mkA ((by rw [hg]; exact (below_size zk1) : w.heap.size ≤ gb158)); clear HB; have HB := n0_; have BK158 := n1_; have GW158 := n2_; have GE158 := n3_; clear n0_ n1_ n2_ n3_; clear hb hbox hg; obtain ⟨hcz8_0, hcz8_1, hcz8_2, hcz8_3, hcz8_4, hcz8_5, hfz8_0, hfz8_1, hfz8_2, hfz8_3, hfz8_4, hfz8_5⟩ := cf6 BK158.out) | ((with_reducible refine gate_callee (f := 16) rfl ?_); refine goesL_ (some 5) rfl rfl Try.func16 zk11 rfl #[.slice A0_0 l0_0.length c0_0] rfl zk2 ?_; (with_reducible refine (varveref07_Check.calls k _ _ l0_0 true _ ?side1 ?side2 A2.out).mono ?_); (case side1 => exact zk71); (case side2 => exact HC0_0.out); rintro e w' ⟨rfl, ⟨nd, rfl⟩⟩; refine ⟨_, rfl, ?_⟩) | (go_at_call 26; (with_reducible refine (varveref08_Check.calls k _ _ l0_1 true _ ?side1 ?side2 A4.out).mono ?_); (case side1 => exact zk83); (case side2 => exact HC0_1.out); rintro e w' ⟨rfl, ⟨nd, rfl⟩⟩) | (go_at_call 67; (with_reducible refine (varveref09_Check.calls k a0_2 a0_3 a0_4 a0_5 t161 _ A6.out).mono ?_); rintro e w9 ⟨rfl, hb⟩; have n0_ := mkA (blk_below (g := gb158) (o := .cells #[.slice A0_0 l0_0.length c0_0, .slice A0_1 l0_1.length c0_1, .int .u64 a0_2, .int .u64 a0_3, .int .u64 a0_4, .int .u64 a0_5] 45 (0, 0)) (by (with_reducible repeat (first | refine blk_drewN ?_ _ | refine blk_drew ?_ | refine blk_alloc ?_ _)); exact BK158.out) hb); have n1_ := mkA (below_step zk66 hb); clear BK158; clear HB; have BK158 := n0_; have HB := n1_; clear n0_ n1_; (try clear hb); (try clear hb2); (try clear hk); (try clear hi)))); go_ret
   exact ⟨zk7, zk66⟩
  ·replace c5 := Bool.eq_false_iff.mpr c5
   subst c5; have H1 : (some false) = some r := zk41
   clear H; have H := H1; clear H1; obtain rfl := Option.some.inj H; go_enter Try.func32, Try.ntmps32; (go_wp2_with (first | ((with_reducible refine gate_dst (N := 1) rfl ?_); refine box_event ?hg (N := 1) ?hd (cs := #[.slice A0_0 l0_0.length c0_0, .slice A0_1 l0_1.length c0_1, .int .u64 a0_2, .int .u64 a0_3, .int .u64 a0_4, .int .u64 a0_5]) (t := 45) ?hr ?_; (case hd => exact zk50); (case hg => exact zk50); (case hr => exact zk26); intro gb158 hg w10 hbox hb; have n0_ := mkA (below_step zk1 hb); have n1_ := mkA (hbox); have n2_ := mkA ((by rw [hg]; exact (below_size zk1) : w.heap.size ≤ gb158)); have n3_ := mkA ((by rw [hg]; exact (below_size zk1) : w.heap.size ≤ gb158)); clear HB; have HB := n0_; have BK158 := n1_; have GW158 := n2_; have GE158 := n3_; clear n0_ n1_ n2_ n3_; clear hb hbox hg; obtain ⟨hcz11_0, hcz11_1, hcz11_2, hcz11_3, hcz11_4, hcz11_5, hfz11_0, hfz11_1, hfz11_2, hfz11_3, hfz11_4, hfz11_5⟩ := cf6 BK158.out) | ((with_reducible refine gate_callee (f := 16) rfl ?_); refine goesL_ (some 5) rfl rfl Try.func16 zk11 rfl #[.slice A0_0 l0_0.length c0_0] rfl zk2 ?_; (with_reducible refine (varveref07_Check.calls k _ _ l0_0 true _ ?side1 ?side2 A2.out).mono ?_); (case side1 => exact zk71); (case side2 => exact HC0_0.out); rintro e w' ⟨rfl, ⟨nd, rfl⟩⟩; refine ⟨_, rfl, ?_⟩) | (go_at_call 26; (with_reducible refine (varveref08_Check.calls k _ _ l0_1 false _ ?side1 ?side2 A4.out).mono ?_); (case side1 => exact zk83); (case side2 => exact HC0_1.out); rintro e w' ⟨rfl, ⟨nd, rfl⟩⟩))); go_ret
   exact ⟨zk7, zk66⟩
 ·replace c3 := Bool.eq_false_iff.mpr c3
  subst c3; have H1 : (some false) = some r := zk41
  clear H; have H := H1; clear H1; obtain rfl := Option.some.inj H; go_enter Try.func32, Try.ntmps32; (go_wp2_with (first | ((with_reducible refine gate_dst (N := 1) rfl ?_); refine box_event ?hg (N := 1) ?hd (cs := #[.slice A0_0 l0_0.length c0_0, .slice A0_1 l0_1.length c0_1, .int .u64 a0_2, .int .u64 a0_3, .int .u64 a0_4, .int .u64 a0_5]) (t := 45) ?hr ?_; (case hd => exact zk50); (case hg => exact zk50); (case hr => exact zk26); intro gb158 hg w12 hbox hb; have n0_ := mkA (below_step zk1 hb); have n1_ := mkA (hbox); have n2_ := mkA ((by rw [hg]; exact (below_size zk1) : w.heap.size ≤ gb158)); have n3_ := mkA ((by rw [hg]; exact (below_size zk1) : w.heap.size ≤ gb158)); clear HB; have HB := n0_; have BK158 := n1_; have GW158 := n2_; have GE158 := n3_; clear n0_ n1_ n2_ n3_; clear hb hbox hg; obtain ⟨hcz13_0, hcz13_1, hcz13_2, hcz13_3, hcz13_4, hcz13_5, hfz13_0, hfz13_1, hfz13_2, hfz13_3, hfz13_4, hfz13_5⟩ := cf6 BK158.out) | ((with_reducible refine gate_callee (f := 16) rfl ?_); refine goesL_ (some 5) rfl rfl Try.func16 zk11 rfl #[.slice A0_0 l0_0.length c0_0] rfl zk2 ?_; (with_reducible refine (varveref07_Check.calls k _ _ l0_0 false _ ?side1 ?side2 A2.out).mono ?_); (case side1 => exact zk71); (case side2 => exact HC0_0.out); rintro e w' ⟨rfl, ⟨nd, rfl⟩⟩; refine ⟨_, rfl, ?_⟩))); go_ret
  exact ⟨zk7, zk66⟩
def varvelaw00_Nums.f (l0 : List Int) : Option (List Int) := if ([] : List Int).length + l0.length < 17592186044416 then (some (([] : List Int) ++ l0)) else (none)
set_option maxHeartbeats 8000000 in
set_option maxRecDepth 100000 in
theorem varvelaw00_Nums.calls (A0 : Option Addr) (c0 : Nat) (l0 : List Int) (r : List Int) (w : World) (hr0 : Kd.C (Kd.int .u64) w A0 l0.length l0) (hc0 : l0.length ≤ c0) (h : varvelaw00_Nums.f l0 = some r) :
  Calls Try.prog 25 #[.slice A0 l0.length c0] w fun e w' => ∃ v0_ : Value, e = .returned (v0_) ∧ Kd.R (Kd.int .u64) 41 w' w.heap.size (fun _ => True) v0_ r ∧ Below w.heap.size w w' := by
 have HR0 := mkA hr0; have HC0 := mkA hc0; clear hr0 hc0; have HB := mkA (Below.refl w.heap.size w); have H : (if ([] : List Int).length + l0.length < 17592186044416 then (some (([] : List Int) ++ l0)) else (none)) = some r := h; clear h; by_cases c2 : ([] : List Int).length + l0.length < 17592186044416
 ·rw [if_pos c2] at H
  have LMc2 := mkA c2; clear c2; obtain ⟨y165, hy165⟩ : ∃ y_ : List Int, y_ = (([] : List Int) ++ l0) := ⟨_, rfl⟩
  replace H : (some y165) = some r := by first | (rw [hy165]; with_reducible exact H) | (have H2_ := (Option.bind_some _ _).symm.trans H; rw [hy165]; with_reducible exact H2_) | (have H2_ := (Option.bind_some _ _).symm.trans H; with_reducible exact H2_) | with_reducible exact H | (rw [hy165]; exact H) | exact H
  have Ny165 := mkA hy165; clear hy165; obtain rfl := Option.some.inj H; go_enter Try.func25, Try.ntmps25; (go_wp2_with (first | ((with_reducible refine gate_builtin (b := .append) (xs := #[.const (.slice none 0 0), .tmp 3]) rfl ?_); at_builtin; refine Kd.R_append_rows (Kd.int .u64) (w0 := w) w.heap.size rfl (.const (.slice none 0 0)) (.tmp 3) 40 41 (.int .u64 0) 8 rfl Try.underlying40 info41 rfl zk47 zk6 (.slice none 0 0) ([] : List Int) l0 _ _ _ (fun _ => True) (fun _ => False) rfl rfl ?aO ?aR (fun _ _ h => h) (fun _ h => h.elim) ?aF ?aB ?aS ?aL ?_; (case aR => exact zk46); (case aB => exact zk27); (case aF => exact zk125); (case aO => exact zk189); (case aS => exact zk25); (case aL => have := LMc2.out; omega); intro v166 w3 ho hb hg hat; rw [← Ny165.out] at ho; have n0_ := mkA (hb); have n1_ := mkA (ho); clear HB; have HB := n0_; have HO167 := n1_; clear n0_ n1_; clear ho hb hg hat))); go_ret
  exact ⟨_, zk7, by (with_reducible repeat (first | apply Kd.R_alloc | apply Kd.R_drewN | apply Kd.R_drew)); exact HO167.out, zk1⟩
 ·exact zk238
def varvelaw00_Sketch.f (l0_0 : List (S70)) (l0_1 : List Int) (a0_2 : Int) (a0_3 : Int) (a0_4 : Int) (a0_5 : Int) : Option ((List (S70)) × List Int × Int × Int × Int × Int) := (varvelaw00_Buckets.f l0_0).bind fun t170 => ((varvelaw00_Nums.f l0_1).bind fun t173 => (some (t170, t173, a0_2, a0_3, a0_4, a0_5)))
set_option maxHeartbeats 8000000 in
set_option maxRecDepth 100000 in
theorem varvelaw00_Sketch.calls (A0_0 : Option Addr) (c0_0 : Nat) (l0_0 : List (S70)) (A0_1 : Option Addr) (c0_1 : Nat) (l0_1 : List Int) (a0_2 : Int) (a0_3 : Int) (a0_4 : Int) (a0_5 : Int) (r1 : List (S70)) (r2 : List Int) (r3 : Int) (r4 : Int) (r5 : Int) (r6 : Int) (w : World) (hr0_0 : Kd.C k70 w A0_0 l0_0.length l0_0) (hc0_0 : l0_0.length ≤ c0_0) (hr0_1 : Kd.C (Kd.int .u64) w A0_1 l0_1.length l0_1) (hc0_1 : l0_1.length ≤ c0_1) (h : varvelaw00_Sketch.f l0_0 l0_1 a0_2 a0_3 a0_4 a0_5 = some (r1, r2, r3, r4, r5, r6)) :
  Calls Try.prog 34 #[.agg #[.slice A0_0 l0_0.length c0_0, .slice A0_1 l0_1.length c0_1, .int .u64 a0_2, .int .u64 a0_3, .int .u64 a0_4, .int .u64 a0_5]] w fun e w' => ∃ v0_ v1_ : Value, e = .returned (.agg #[v0_, v1_, .int .u64 r3, .int .u64 r4, .int .u64 r5, .int .u64 r6]) ∧ Kd.R k70 70 w' w.heap.size (fun _ => True) v0_ r1 ∧ Kd.R (Kd.int .u64) 41 w' w.heap.size (fun _ => True) v1_ r2 ∧ Below w.heap.size w w' := by
 have hu45 := Try.underlying45; have HR0_0 := mkA hr0_0; have HC0_0 := mkA hc0_0; clear hr0_0 hc0_0; have HR0_1 := mkA hr0_1; have HC0_1 := mkA hc0_1; clear hr0_1 hc0_1; have HB := mkA (Below.refl w.heap.size w); have H : ((varvelaw00_Buckets.f l0_0).bind fun t170 => ((varvelaw00_Nums.f l0_1).bind fun t173 => (some (t170, t173, a0_2, a0_3, a0_4, a0_5)))) = some (r1, r2, r3, r4, r5, r6) := h; clear h; replace H := Option.bind_eq_some_iff.mp H; obtain ⟨t170, A20, H⟩ := H; replace H : ((varvelaw00_Nums.f l0_1).bind fun t173 => (some (t170, t173, a0_2, a0_3, a0_4, a0_5))) = some (r1, r2, r3, r4, r5, r6) := H; have A2 := mkA A20; clear A20; replace H := Option.bind_eq_some_iff.mp H; obtain ⟨t173, A30, H⟩ := H; replace H : (some (t170, t173, a0_2, a0_3, a0_4, a0_5)) = some (r1, r2, r3, r4, r5, r6) := H; have A3 := mkA A30; clear A30; simp only [Option.some.injEq, Prod.mk.injEq] at H; obtain ⟨rfl, rfl, rfl, rfl, rfl, rfl⟩ := H; go_enter Try.func34, Try.ntmps34; (go_wp2_with (first | ((with_reducible refine gate_dst (N := 1) rfl ?_); refine box_event ?hg (N := 1) ?hd (cs := #[.slice A0_0 l0_0.length c0_0, .slice A0_1 l0_1.length c0_1, .int .u64 a0_2, .int .u64 a0_3, .int .u64 a0_4, .int .u64 a0_5]) (t := 45) ?hr ?_; (case hd => exact zk50); (case hg => exact zk50); (case hr => exact zk26); intro gb168 hg w4 hbox hb; have n0_ := mkA (below_step zk1 hb); have n1_ := mkA (hbox); have n2_ := mkA ((by rw [hg]; exact (below_size zk1) : w.heap.size ≤ gb168)); have n3_ := mkA ((by rw [hg]; exact (below_size zk1) : w.heap.size ≤ gb168)); clear HB; have HB := n0_; have BK168 := n1_; have GW168 := n2_; have GE168 := n3_; clear n0_ n1_ n2_ n3_; clear hb hbox hg) | ((with_reducible refine gate_dst (N := 2) rfl ?_); refine box_event ?hg (N := 2) ?hd (cs := #[.slice none 0 0, .slice none 0 0, .int .u64 0, .int .u64 0, .int .u64 0, .int .u64 0]) (t := 45) ?hr ?_; (case hd => exact zk50); (case hg => exact zk50); (case hr => exact zk26); intro gb169 hg w5 hbox hb; have n0_ := mkA (blk_below (g := gb168) (o := .cells #[.slice A0_0 l0_0.length c0_0, .slice A0_1 l0_1.length c0_1, .int .u64 a0_2, .int .u64 a0_3, .int .u64 a0_4, .int .u64 a0_5] 45 (0, 0)) zk106 hb); have n1_ := mkA (below_step zk105 hb); have n2_ := mkA (hbox); have n3_ := mkA ((by rw [hg]; exact (below_size zk105) : w.heap.size ≤ gb169)); have n4_ := mkA ((by rw [hg]; exact (below_size zk105) : w.heap.size ≤ gb169)); have n5_ := mkA ((by rw [hg]; exact Nat.ne_of_lt (blk_lt (g := gb168) (o := .cells #[.slice A0_0 l0_0.length c0_0, .slice A0_1 l0_1.length c0_1, .int .u64 a0_2, .int .u64 a0_3, .int .u64 a0_4, .int .u64 a0_5] 45 (0, 0)) zk106) : gb168 ≠ gb169)); have n6_ := mkA ((by rw [hg]; exact Nat.ne_of_gt (blk_lt (g := gb168) (o := .cells #[.slice A0_0 l0_0.length c0_0, .slice A0_1 l0_1.length c0_1, .int .u64 a0_2, .int .u64 a0_3, .int .u64 a0_4, .int .u64 a0_5] 45 (0, 0)) zk106) : gb169 ≠ gb168)); clear BK168; clear HB; have BK168 := n0_; have HB := n1_; have BK169 := n2_; have GW169 := n3_; have GE169 := n4_; have NB168_169 := n5_; have NB169_168 := n6_; clear n0_ n1_ n2_ n3_ n4_ n5_ n6_; clear hb hbox hg; have hnb6 := NB168_169.out; have hnc6 := NB169_168.out; obtain ⟨hcz7_0, hcz7_1, hcz7_2, hcz7_3, hcz7_4, hcz7_5, hfz7_0, hfz7_1, hfz7_2, hfz7_3, hfz7_4, hfz7_5⟩ := cf6 BK168.out) | ((with_reducible refine gate_callee (f := 15) rfl ?_); refine goesL_ (some 5) rfl rfl Try.func15 zk11 rfl #[.slice A0_0 l0_0.length c0_0] rfl zk2 ?_; (with_reducible refine (varvelaw00_Buckets.calls _ _ l0_0 t170 _ ?side1 ?side2 A2.out).mono ?_); (case side1 => exact zk71); (case side2 => exact HC0_0.out); rintro e w8 ⟨v171, rfl, ho0, hb⟩; refine ⟨_, rfl, ?_⟩; have n0_ := mkA (Kd.R_lower ho0 (below_size zk51)); have n1_ := mkA (blk_below (g := gb168) (o := .cells #[.slice A0_0 l0_0.length c0_0, .slice A0_1 l0_1.length c0_1, .int .u64 a0_2, .int .u64 a0_3, .int .u64 a0_4, .int .u64 a0_5] 45 (0, 0)) zk106 hb); have n2_ := mkA (blk_below (g := gb169) (o := .cells #[.slice none 0 0, .slice none 0 0, .int .u64 0, .int .u64 0, .int .u64 0, .int .u64 0] 45 (0, 0)) (by (with_reducible repeat (first | refine blk_drewN ?_ _ | refine blk_drew ?_ | refine blk_alloc ?_ _)); exact BK169.out) hb); have n3_ := mkA (below_step zk51 hb); clear BK168; clear BK169; clear HB; have HO172 := n0_; have BK168 := n1_; have BK169 := n2_; have HB := n3_; clear n0_ n1_ n2_ n3_; (try clear hb); (try clear hb2); (try clear hk); (try clear hi); (try clear ho0); obtain ⟨Ao9, co9, eo9⟩ := Kd.R_slice HO172.out; subst eo9; obtain ⟨hcz10_0, hcz10_1, hcz10_2, hcz10_3, hcz10_4, hcz10_5, hfz10_0, hfz10_1, hfz10_2, hfz10_3, hfz10_4, hfz10_5⟩ := cf6 BK168.out) | ((with_reducible refine gate_callee (f := 25) rfl ?_); refine goesL_ (some 9) rfl rfl Try.func25 zk11 rfl #[.slice A0_1 l0_1.length c0_1] rfl zk2 ?_; (with_reducible refine (varvelaw00_Nums.calls _ _ l0_1 t173 _ ?side1 ?side2 A3.out).mono ?_); (case side1 => exact Kd.C_below HR0_1.out zk51); (case side2 => exact HC0_1.out); rintro e w11 ⟨v174, rfl, ho0, hb⟩; refine ⟨_, rfl, ?_⟩; have n0_ := mkA (Kd.R_below (by (with_reducible repeat (first | apply Kd.R_alloc | apply Kd.R_drewN | apply Kd.R_drew)); exact (Kd.R_mono (Kd.R_far (p := ⟨gb168, 0, none⟩) (Kd.R_types HO172.out BK168.out zk47) (fun _ hk => hk.2) (.slice Ao9 t170.length co9)) (fun _ h_ => h_.1))) hb); have n1_ := mkA (Kd.R_lower ho0 (below_size zk51)); have n2_ := mkA (blk_below (g := gb168) (o := .cells #[.slice Ao9 t170.length co9, .slice A0_1 l0_1.length c0_1, .int .u64 a0_2, .int .u64 a0_3, .int .u64 a0_4, .int .u64 a0_5] 45 (0, 0)) (by (with_reducible repeat (first | refine blk_drewN ?_ _ | refine blk_drew ?_ | refine blk_alloc ?_ _)); refine blk_put (cs := #[.slice A0_0 l0_0.length c0_0, .slice A0_1 l0_1.length c0_1, .int .u64 a0_2, .int .u64 a0_3, .int .u64 a0_4, .int .u64 a0_5]) ?_ 0 _ rfl; (with_reducible repeat (first | refine blk_drewN ?_ _ | refine blk_drew ?_ | refine blk_alloc ?_ _)); exact BK168.out) hb); have n3_ := mkA (blk_below (g := gb169) (o := .cells #[.slice none 0 0, .slice none 0 0, .int .u64 0, .int .u64 0, .int .u64 0, .int .u64 0] 45 (0, 0)) (by (with_reducible repeat (first | refine blk_drewN ?_ _ | refine blk_drew ?_ | refine blk_alloc ?_ _)); refine blk_far ?_ NB169_168.out _; (with_reducible repeat (first | refine blk_drewN ?_ _ | refine blk_drew ?_ | refine blk_alloc ?_ _)); exact BK169.out) hb); have n4_ := mkA (below_step zk51 hb); clear HO172; clear BK168; clear BK169; clear HB; have HO172 := n0_; have HO175 := n1_; have BK168 := n2_; have BK169 := n3_; have HB := n4_; clear n0_ n1_ n2_ n3_ n4_; (try clear hb); (try clear hb2); (try clear hk); (try clear hi); (try clear ho0); obtain ⟨Ao12, co12, eo12⟩ := Kd.R_slice HO175.out; subst eo12; obtain ⟨hcz13_0, hcz13_1, hcz13_2, hcz13_3, hcz13_4, hcz13_5, hfz13_0, hfz13_1, hfz13_2, hfz13_3, hfz13_4, hfz13_5⟩ := cf6 BK168.out; obtain ⟨hcz14_0, hcz14_1, hcz14_2, hcz14_3, hcz14_4, hcz14_5, hfz14_0, hfz14_1, hfz14_2, hfz14_3, hfz14_4, hfz14_5⟩ := cf6 BK169.out))); refine bodyPost_ret (results_cell_row rfl _ _ gb169 45 #[.slice Ao9 t170.length co9, .slice Ao12 t173.length co12, .int .u64 a0_2, .int .u64 a0_3, .int .u64 a0_4, .int .u64 a0_5] (0, 0) _ rfl (by (with_reducible repeat (first | refine blk_drewN ?_ _ | refine blk_drew ?_ | refine blk_alloc ?_ _)); refine blk_put (cs := #[.slice Ao9 t170.length co9, .slice Ao12 t173.length co12, .int .u64 a0_2, .int .u64 a0_3, .int .u64 a0_4, .int .u64 0]) ?_ 5 _ rfl; (with_reducible repeat (first | refine blk_drewN ?_ _ | refine blk_drew ?_ | refine blk_alloc ?_ _)); refine blk_put (cs := #[.slice Ao9 t170.length co9, .slice Ao12 t173.length co12, .int .u64 a0_2, .int .u64 a0_3, .int .u64 0, .int .u64 0]) ?_ 4 _ rfl; (with_reducible repeat (first | refine blk_drewN ?_ _ | refine blk_drew ?_ | refine blk_alloc ?_ _)); refine blk_put (cs := #[.slice Ao9 t170.length co9, .slice Ao12 t173.length co12, .int .u64 a0_2, .int .u64 0, .int .u64 0, .int .u64 0]) ?_ 3 _ rfl; (with_reducible repeat (first | refine blk_drewN ?_ _ | refine blk_drew ?_ | refine blk_alloc ?_ _)); refine blk_put (cs := #[.slice Ao9 t170.length co9, .slice Ao12 t173.length co12, .int .u64 0, .int .u64 0, .int .u64 0, .int .u64 0]) ?_ 2 _ rfl; (with_reducible repeat (first | refine blk_drewN ?_ _ | refine blk_drew ?_ | refine blk_alloc ?_ _)); refine blk_put (cs := #[.slice Ao9 t170.length co9, .slice none 0 0, .int .u64 0, .int .u64 0, .int .u64 0, .int .u64 0]) ?_ 1 _ rfl; (with_reducible repeat (first | refine blk_drewN ?_ _ | refine blk_drew ?_ | refine blk_alloc ?_ _)); refine blk_put (cs := #[.slice none 0 0, .slice none 0 0, .int .u64 0, .int .u64 0, .int .u64 0, .int .u64 0]) ?_ 0 _ rfl; (with_reducible repeat (first | refine blk_drewN ?_ _ | refine blk_drew ?_ | refine blk_alloc ?_ _)); refine blk_far ?_ NB169_168.out _; (with_reducible repeat (first | refine blk_drewN ?_ _ | refine blk_drew ?_ | refine blk_alloc ?_ _)); exact BK169.out) Try.underlying45 rfl zk11) rfl ?_; exact ⟨_, _, zk7, by (with_reducible repeat (first | apply Kd.R_alloc | apply Kd.R_drewN | apply Kd.R_drew)); exact Kd.R_mono (Kd.R_far (p := ⟨gb169, 5, none⟩) (Kd.R_far (p := ⟨gb169, 4, none⟩) (Kd.R_far (p := ⟨gb169, 3, none⟩) (Kd.R_far (p := ⟨gb169, 2, none⟩) (Kd.R_far (p := ⟨gb169, 1, none⟩) (Kd.R_far (p := ⟨gb169, 0, none⟩) (Kd.R_far (p := ⟨gb168, 1, none⟩) (Kd.R_types (Kd.R_types HO172.out BK168.out zk47) BK169.out zk47) (fun _ hk => hk.1.2) (.slice Ao12 t173.length co12)) (fun _ hk => hk.2) (.slice Ao9 t170.length co9)) (fun _ hk => hk.2) (.slice Ao12 t173.length co12)) (fun _ hk => hk.2) (.int .u64 a0_2)) (fun _ hk => hk.2) (.int .u64 a0_3)) (fun _ hk => hk.2) (.int .u64 a0_4)) (fun _ hk => hk.2) (.int .u64 a0_5)) (fun _ hk => trivial), by (with_reducible repeat (first | apply Kd.R_alloc | apply Kd.R_drewN | apply Kd.R_drew)); exact Kd.R_mono (Kd.R_far (p := ⟨gb169, 5, none⟩) (Kd.R_far (p := ⟨gb169, 4, none⟩) (Kd.R_far (p := ⟨gb169, 3, none⟩) (Kd.R_far (p := ⟨gb169, 2, none⟩) (Kd.R_far (p := ⟨gb169, 1, none⟩) (Kd.R_far (p := ⟨gb169, 0, none⟩) (Kd.R_far (p := ⟨gb168, 1, none⟩) (Kd.R_types (Kd.R_types HO175.out BK168.out zk47) BK169.out zk47) (fun _ hk => hk.1.2) (.slice Ao12 t173.length co12)) (fun _ hk => hk.2) (.slice Ao9 t170.length co9)) (fun _ hk => hk.2) (.slice Ao12 t173.length co12)) (fun _ hk => hk.2) (.int .u64 a0_2)) (fun _ hk => hk.2) (.int .u64 a0_3)) (fun _ hk => hk.2) (.int .u64 a0_4)) (fun _ hk => hk.2) (.int .u64 a0_5)) (fun _ hk => trivial), zk51⟩
end Go.Proofs.Ytplgffbfepnihaa.Ga
namespace Go.Proofs.Ytplgffbfepnihaa
open Go.RowKit Go.Proofs.YtplgffbfepnihaaW.PrintWords Go.Proofs.YtplgffbfepnihaaW.PrintLast Go.Proofs.YtplgffbfepnihaaW.PrintMore
def encN (n : Nat) : List Int := if n < 128 then [(n : Int)] else ((n % 128 + 128 : Nat) : Int) :: encN (n / 128)
termination_by n
decreasing_by omega
theorem encN_low {n : Nat} (h : n < 128) : encN n = [(n : Int)] := by rw [encN, if_pos h]
theorem encN_high {n : Nat} (h : ¬ n < 128) : encN n = ((n % 128 + 128 : Nat) : Int) :: encN (n / 128) := by rw [encN, if_neg h]
def App (W : World) (base : Nat) (v : Value) (xs : List Int) : Prop :=
 Kd.R (Kd.int .u8) 5 W base (fun _ => True) v xs ∨ ∃ A n, v = .slice A n n ∧ (A = none → n = 0) ∧ Kd.C (Kd.int .u8) W A n xs
theorem App.below {W W' : World} {base : Nat} {v : Value} {xs : List Int} (h : App W base v xs) (hb : Below W.heap.size W W') : App W' base v xs := by
 rcases h with h | ⟨A, n, e, hn, hC⟩
 ·exact .inl (Kd.R_below h hb)
 ·exact .inr ⟨A, n, e, hn, Kd.C_below hC hb⟩
theorem info8 : (Try.prog.info? 5).map (fun i => (i.zero, i.size, i.bytes)) = some (some (.int .u8 0), 1, 1) := by kernel_rfl
set_option maxRecDepth 100000 in
theorem App.append {ops : Array Oper} {rest : List Oper} {o : Oper} {a : Act} {Q : Exit → Act → World → Prop} {w0 W : World} (base : Nat) (hgd : o.guard = none) (s x : Operand)
  (ho : o.op = .call { callee := .builtin .append, args := #[s, x], argTypes := #[22, 22] }) (v : Value) (xs ys : List Int) (A : Option Addr) (m c : Nat) (hs : a.eval s = v) (hx : a.eval x = .slice A m c)
  (HA : App W base v xs) (HR : Kd.C (Kd.int .u8) W A m ys) (hm : 0 < m) (HB : Below base w0 W) (hbase : base ≤ W.heap.size) (hl : xs.length + m ≤ 140737488355328)
  (h : ∀ v1 w1, Kd.R (Kd.int .u8) 5 w1 base (fun _ => True) v1 (xs ++ ys) → Below base w0 w1 → W.heap.size ≤ w1.heap.size → wpList Try.prog ops Q rest (a.put o.dst v1) w1) : wpList Try.prog ops Q (o :: rest) a W := by
 rcases HA with HO | ⟨B, n, rfl, hn, hC⟩
 ·exact Kd.R_append_row (w0 := w0) (Value.int .u8) (0 : Int) base hgd s x 22 5 (.int .u8 0) 1 ho Try.underlying22 info8 rfl zk47 v xs ys A m c (fun _ => True) hs hx (fun _ _ => trivial) HO HR HB hbase zk6 (fun v1 w1 h1 h2 h3 _ => h v1 w1 h1 h2 h3.size)
 ·obtain ⟨i0, hi, hzz⟩ := Option.map_eq_some_iff.1 info8
  simp only [Prod.mk.injEq] at hzz; obtain ⟨hz0, hz1, hz2⟩ := hzz; have hxs := hC.1; have hys := HR.1; obtain ⟨ad, rfl, hcell⟩ := (Kd.reads_of_C (d := (0 : Int)) HR).2.2 hm; have hM : maxLen = 9223372036854775807 := rfl; refine wpList_append_grows W hgd s x 22 ho 5 i0 (.int .u8 0) 1 1 Try.underlying22 hi hz0 hz1 hz2 rfl zk47 B n n (nums .u8 xs) hs (fun e => ⟨hn e, hn e⟩) zk187 (fun b hb j u hu => ?_) ad m c (nums .u8 ys) hx zk187 (fun j u hu => ?_) (fun u hu => ?_) zk6 zk6 zk6 (fun v' w' h1 h2 => ?_)
  ·have hj : j < xs.length := by
    rcases Nat.lt_or_ge j xs.length with q | q
    ·exact q
    ·rw [List.getElem?_eq_none (by simpa [nums] using q)] at hu; cases hu
   obtain ⟨b', eb, hc⟩ := (Kd.reads_of_C (d := (0 : Int)) hC).2.2 zk6; rw [hb] at eb
   injection eb with eb
   subst eb; rw [hc j zk6]; simp [nums, List.getElem?_map, List.getElem?_eq_getElem hj] at hu; subst hu; simp [List.getD, List.getElem?_eq_getElem hj]
  ·have hj : j < ys.length := by
    rcases Nat.lt_or_ge j ys.length with q | q
    ·exact q
    ·rw [List.getElem?_eq_none (by simpa [nums] using q)] at hu; cases hu
   rw [hcell j zk6]; simp [nums, List.getElem?_map, List.getElem?_eq_getElem hj] at hu; subst hu; simp [List.getD, List.getElem?_eq_getElem hj]
  ·simp only [nums, List.mem_map] at hu; obtain ⟨q, _, rfl⟩ := hu; rfl
  ·have e : nums .u8 xs ++ nums .u8 ys = encs (Value.int .u8) (xs ++ ys) := by simp [nums, encs]
   have hB : Below base w0 w' := HB.trans ⟨h2.os, h2.tape, h2.output, h2.size, fun k hk => h2.block k zk6 zk56⟩; rw [e] at h1; have h3 : w'.ownsRow W.heap.size 5 1 v' (xs ++ ys).length (encs (Value.int .u8) (xs ++ ys)) := by rw [List.length_append, hxs, hys]; exact h1
   exact h v' w' (Kd.R_lower (Kd.R_of_own h3 (fun _ _ => trivial)) hbase) hB h2.size
theorem or128 (m : Nat) : bits .or .u8 ((m : Int) % 256) 128 = ((m % 128 + 128 : Nat) : Int) := by
 have h : ∀ x : Fin 256, bits .or .u8 ((x.val : Nat) : Int) 128 = ((x.val % 128 + 128 : Nat) : Int) := by decide +kernel
 have e := h ⟨m % 256, zk6⟩; simp only at e; rw [show ((m : Int) % 256) = ((m % 256 : Nat) : Int) by omega, e]; omega
theorem C_one (w : World) (x : Int) : Kd.C (Kd.int .u8) (w.alloc (.cells #[.int .u8 x] 5)) (some ⟨w.heap.size, 0, none⟩) 1 [x] := by
 refine ⟨rfl, zk47, fun _ => ⟨_, rfl, fun j p hp => ?_⟩⟩
 cases j with
 | succ j => simp at hp
 | zero =>
  obtain rfl : x = p := zk200
  refine ⟨_, rfl, rfl, fun i u hu => ?_⟩
  cases i with
  | succ i => simp at hu
  | zero =>
   obtain rfl : Value.int .u8 x = u := by simpa using hu
   have h := blk_cell (blk_new w (.cells #[.int .u8 x] 5)) 0; have e : (⟨w.heap.size, 0, none⟩ : Addr).add (0 * (Kd.int .u8).sz + 0) = ⟨w.heap.size, 0, none⟩ := rfl; rw [e, h]; rfl
theorem encN_len (n : Nat) (h : n < 18446744073709551616) : (encN n).length ≤ 10 := by
 have key : ∀ (k n : Nat), n < 128 ^ (k + 1) → (encN n).length ≤ k + 1 := by
  intro k
  induction k with
  | zero => intro n hn; rw [encN_low zk6]; simp
  | succ k ih =>
   intro n hn; by_cases c : n < 128
   ·rw [encN_low c]; simp
   ·rw [encN_high c, List.length_cons]; have := ih (n / 128) (by rw [Nat.div_lt_iff_lt_mul zk47]; rw [Nat.pow_succ] at hn; exact hn); omega
 exact key 9 n (Nat.lt_of_lt_of_le h zk47)
theorem encN_pos (n : Nat) : 0 < (encN n).length := by
 by_cases c : n < 128
 ·rw [encN_low c]; simp
 ·rw [encN_high c]; simp
set_option maxHeartbeats 4000000 in
set_option maxRecDepth 100000 in
theorem put_any {w0 w : World} {base : Nat} {b : Value} {xs : List Int} (n : Nat) (hn : n < 18446744073709551616) (HA : App w base b xs) (HB : Below base w0 w) (hb : base ≤ w.heap.size) (hl : xs.length + 20 ≤ 140737488355328) :
  Calls Try.prog 92 #[b, .int .u64 (n : Int)] w fun e w' => ∃ r, e = .returned r ∧ Kd.R (Kd.int .u8) 5 w' base (fun _ => True) r (xs ++ encN n) ∧ Below base w0 w' ∧ w.heap.size ≤ w'.heap.size := by
 have hlen := encN_len n hn; have HAh := Lib.hid HA; have HBh := Lib.hid HB; have HSh := Lib.hid hb; have HL := Lib.hid hl; have HN := Lib.hid hn; have HEL := Lib.hid hlen; clear HA HB hb hl hn hlen; go_enter Try.func92, Try.ntmps92; go_wp2; go_loopw [0, 1] (fun v0 v1 wr => ∃ (m : Nat) (ys : List Int), v1 = .int .u64 (m : Int) ∧ m ≤ n ∧ App wr base v0 (xs ++ ys) ∧ ys ++ encN m = encN n ∧ Below base w0 wr ∧ w.heap.size ≤ wr.heap.size) (fun _ v1 _ => (intOf v1).toNat)
 case atStart => exact ⟨n, [], rfl, Nat.le_refl _, by rw [List.append_nil]; exact HAh.out, rfl, HBh.out, Nat.le_refl _⟩
 case round =>
  obtain ⟨m, ys, rfl, hm, hA, he, hB, hz⟩ := hrel
  have hyl : ys.length ≤ 10 := by
   have e := congrArg List.length he; rw [List.length_append] at e; have := HEL.out; omega
  have hmb : m < 18446744073709551616 := by have := HN.out; omega
  have HM := Lib.hid hm; have HA := Lib.hid hA; have HE := Lib.hid he; have HB := Lib.hid hB; have HZ := Lib.hid hz; have HY := Lib.hid (show (xs ++ ys).length + 1 ≤ 140737488355328 by have := HL.out; rw [List.length_append]; omega); have HMB := Lib.hid hmb; clear hA he hB hz hyl HAh HBh hm hmb; by_cases c : 128 ≤ m
  ·have c1 : decide ((128 : Int) ≤ (m : Int)) = true := decide_eq_true zk6
   have c2 : decide (128 ≤ m) = true := decide_eq_true c; have HC := Lib.hid c; clear c; (go_wp2_with ((with_reducible refine gate_builtin (b := .append) (xs := #[.tmp 7, .tmp 11]) rfl ?_); at_builtin; refine App.append (w0 := w0) base rfl (.tmp 7) (.tmp 11) rfl u0 (xs ++ ys) [bits .or .u8 ((m : Int) % 256) 128] (some ⟨wr.heap.size, 0, none⟩) 1 1 rfl rfl ?aA ?aR zk47 ?aB ?aS ?aL ?_; (case aA => exact zk173); (case aR => exact zk201); (case aB => exact HB.out.alloc (by have := HZ.out; have := HSh.out; omega) _); (case aS => have := HZ.out; have := HSh.out; simp; omega); (case aL => exact HY.out); intro v_ w_ ho hb hs; rw [or128] at ho; have HO := Lib.hid ho; have HB2 := Lib.hid hb; have HS2 := Lib.hid hs; clear ho hb hs)); go_roundw
   case rel => exact ⟨m / 128, ys ++ [((m % 128 + 128 : Nat) : Int)], by rw [Int.natCast_ediv]; rfl, by have := HM.out; omega, .inl (by rw [← List.append_assoc]; exact HO.out), by rw [List.append_assoc, ← HE.out, encN_high (n := m) (by have := HC.out; omega)]; rfl, HB2.out, by have := HZ.out; have := HS2.out; simp at this; omega⟩
   case measure => have := HC.out; simp [intOf]; omega
  ·have c1 : decide ((128 : Int) ≤ (m : Int)) = false := decide_eq_false zk6
   have c2 : decide (128 ≤ m) = false := decide_eq_false c; have e := encN_low (n := m) zk6; have h256 : ((m : Int) % 256) = m := zk6
   rw [e] at HE; clear c e; (go_wp2_with ((with_reducible refine gate_builtin (b := .append) (xs := #[.tmp 15, .tmp 18]) rfl ?_); at_builtin; refine App.append (w0 := w0) base rfl (.tmp 15) (.tmp 18) rfl u0 (xs ++ ys) [(m : Int)] (some ⟨wr.heap.size, 0, none⟩) 1 1 rfl rfl ?aA ?aR zk47 ?aB ?aS ?aL ?_; (case aA => exact zk173); (case aR => exact zk201); (case aB => exact HB.out.alloc (by have := HZ.out; have := HSh.out; omega) _); (case aS => have := HZ.out; have := HSh.out; simp; omega); (case aL => exact HY.out); intro v_ w_ ho hb hs; rw [List.append_assoc, HE.out] at ho; have HO := Lib.hid ho; have HB2 := Lib.hid hb; have HS2 := Lib.hid hs; clear ho hb hs)); go_ret
   exact ⟨_, rfl, HO.out, HB2.out, by have := HZ.out; have := HS2.out; simp at this; omega⟩
theorem cut_own {A : Option Addr} {c n : Nat} (hc : n ≤ c) (W : World) : (Instr.slice 22 (.slice A n c) none (some (.int .i64 (n : Int))) (some (.int .i64 (n : Int)))).run Try.prog W = .ok (.slice A n n) W := by
 obtain ⟨i, hi, hzz⟩ := Option.map_eq_some_iff.1 info8; simp only [Prod.mk.injEq] at hzz; have hel : Try.prog.elem 22 = 5 := by simp [Program.elem, Try.underlying22]
 have hu : Try.prog.underlying 22 = some (.slice (Try.prog.elem 22)) := by rw [hel]; exact Try.underlying22
 have ha : (A.map fun x => x.add 0) = A := by cases A <;> simp [Addr.add]
 rw [run_slice_hm W 22 A n c hu .i64 .i64 (n : Int) (n : Int) zk6 zk6 zk6, hel]; simp [sizeOf, typeInfo, hi, hzz.2.1, sliced, Result.andThen, ha]
theorem own_any (A : Option Addr) (n c : Nat) (w : World) (hc : n ≤ c) : Calls Try.prog 113 #[.slice A n c] w fun e w' => e = .returned (.slice A n n) ∧ w = w' := by
 have hcut := cut_own (A := A) hc; go_enter Try.func113, Try.ntmps113; go_wp2; go_ret
 exact zk247
theorem App.cap {W : World} {base : Nat} {A : Option Addr} {xs : List Int} (h : Kd.C (Kd.int .u8) W A xs.length xs) : App W base (.slice A xs.length xs.length) xs := by
 refine .inr ⟨A, xs.length, rfl, fun e => ?_, h⟩
 rcases Nat.eq_zero_or_pos xs.length with z | z
 ·exact z
 ·obtain ⟨ad, e', _⟩ := h.2.2 z; rw [e] at e'; cases e'
theorem Put_any {A : Option Addr} {c : Nat} {xs : List Int} {w : World} (n : Nat) (hn : n < 18446744073709551616) (hC : Kd.C (Kd.int .u8) w A xs.length xs) (hc : xs.length ≤ c) (hl : xs.length + 20 ≤ 140737488355328) :
  Calls Try.prog 91 #[.slice A xs.length c, .int .u64 (n : Int)] w fun e w' => ∃ r, e = .returned r ∧ Kd.R (Kd.int .u8) 5 w' w.heap.size (fun _ => True) r (xs ++ encN n) ∧ Below w.heap.size w w' := by
 have HP := put_any (w0 := w) (base := w.heap.size) (w := w) n hn (App.cap hC) (Below.refl _ _) (Nat.le_refl _) hl; have HO := own_any A xs.length c w hc; clear hC hc hl hn; go_enter Try.func91, Try.ntmps91
 go_wp2_with (first
  | (go_at_call 113; (with_reducible refine HO.mono ?_); rintro e w1 ⟨rfl, rfl⟩)
  | (go_at_call 92; (with_reducible refine HP.mono ?_); rintro e w1 ⟨r, rfl, hR, hB, hs⟩; have HR := Lib.hid hR; have HB := Lib.hid hB; clear hR hB hs))
 go_ret
 exact ⟨r, rfl, HR.out, HB.out⟩
def encL (l : List Nat) : List Int := l.flatMap encN
theorem encL_snoc (l : List Nat) (n : Nat) : encL (l ++ [n]) = encL l ++ encN n := by simp [encL]
theorem encL_len (l : List Nat) (h : ∀ n ∈ l, n < 18446744073709551616) : (encL l).length ≤ 10 * l.length := by
 induction l with
 | nil => simp [encL]
 | cons n l ih =>
  have := encN_len n (h n zk56); have := ih (fun m hm => h m (by simp [hm])); simp only [encL, List.flatMap_cons, List.length_append, List.length_cons] at *; omega
end Go.Proofs.Ytplgffbfepnihaa
namespace Go.Proofs.Ytplgffbfepnihaa
open Go.RowKit Go.Proofs.YtplgffbfepnihaaW.PrintWords Go.Proofs.YtplgffbfepnihaaW.PrintLast Go.Proofs.YtplgffbfepnihaaW.PrintMore
set_option maxHeartbeats 4000000 in
set_option maxRecDepth 100000 in
theorem rput_any (n : Nat) (hn : n < 18446744073709551616) (w : World) :
  Calls Try.prog 65 #[.int .u64 (n : Int)] w fun e w' => ∃ r, e = .returned r ∧ Kd.R (Kd.int .u8) 5 w' w.heap.size (fun _ => True) r (encN n) ∧ Below w.heap.size w w' := by
 have hlen := encN_len n hn; have HN := Lib.hid hn; have HEL := Lib.hid hlen; clear hn hlen; go_enter Try.func65, Try.ntmps65; go_wp2; go_loopw [0, 3] (fun v1 v0 wr => ∃ (m : Nat) (ys : List Int), v1 = .int .u64 (m : Int) ∧ m ≤ n ∧ App wr w.heap.size v0 ys ∧ ys ++ encN m = encN n ∧ Below w.heap.size w wr) (fun v1 _ _ => (intOf v1).toNat)
 case atStart => exact ⟨n, [], rfl, Nat.le_refl _, .inl (Kd.R_nil _ _ _ _ _), rfl, Below.refl _ _⟩
 case round =>
  obtain ⟨m, ys, rfl, hm, hA, he, hB⟩ := hrel
  have hyl : ys.length ≤ 10 := by
   have e := congrArg List.length he; rw [List.length_append] at e; have := HEL.out; omega
  have hmb : m < 18446744073709551616 := by have := HN.out; omega
  have HM := Lib.hid hm; have HA := Lib.hid hA; have HE := Lib.hid he; have HB := Lib.hid hB; have HY := Lib.hid (show ys.length + 1 ≤ 140737488355328 by omega); clear hA he hB hyl hm; by_cases c : 128 ≤ m
  ·have c1 : decide ((128 : Int) ≤ (m : Int)) = true := decide_eq_true zk6
   have c2 : decide (128 ≤ m) = true := decide_eq_true c; have HC := Lib.hid c; clear c; (go_wp2_with ((with_reducible refine gate_builtin (b := .append) (xs := #[.tmp 6, .tmp 11]) rfl ?_); at_builtin; refine App.append (w0 := w) w.heap.size rfl (.tmp 6) (.tmp 11) rfl u3 ys [(m : Int) % 128 + 128] (some ⟨wr.heap.size, 0, none⟩) 1 1 rfl rfl ?aA ?aR zk47 ?aB ?aS ?aL ?_; (case aA => exact zk173); (case aR => exact zk201); (case aB => exact below_alloc HB.out _); (case aS => have := HB.out.size; simp; omega); (case aL => exact HY.out); intro v_ w_ ho hb hs; have HO := Lib.hid ho; have HB2 := Lib.hid hb; clear ho hb hs)); go_roundw
   case rel => exact ⟨m / 128, ys ++ [(m : Int) % 128 + 128], by rw [Int.natCast_ediv]; rfl, by have := HM.out; omega, .inl HO.out, by rw [List.append_assoc, ← HE.out, encN_high (n := m) (by have := HC.out; omega)]; simp [Int.natCast_emod], HB2.out⟩
   case measure => have := HC.out; simp [intOf]; omega
  ·have c1 : decide ((128 : Int) ≤ (m : Int)) = false := decide_eq_false zk6
   have c2 : decide (128 ≤ m) = false := decide_eq_false c; have e := encN_low (n := m) zk6; have h256 : ((m : Int) % 256) = m := zk6
   rw [e] at HE; clear c e; (go_wp2_with ((with_reducible refine gate_builtin (b := .append) (xs := #[.tmp 15, .tmp 18]) rfl ?_); at_builtin; refine App.append (w0 := w) w.heap.size rfl (.tmp 15) (.tmp 18) rfl u3 ys [(m : Int)] (some ⟨wr.heap.size, 0, none⟩) 1 1 rfl rfl ?aA ?aR zk47 ?aB ?aS ?aL ?_; (case aA => exact zk173); (case aR => exact zk201); (case aB => exact below_alloc HB.out _); (case aS => have := HB.out.size; simp; omega); (case aL => exact HY.out); intro v_ w_ ho hb hs; rw [HE.out] at ho; have HO := Lib.hid ho; have HB2 := Lib.hid hb; clear ho hb hs)); go_ret
   exact ⟨_, rfl, HO.out, HB2.out⟩
end Go.Proofs.Ytplgffbfepnihaa
namespace Go.Proofs.Ytplgffbfepnihaa.Vt
open Go.RowKit Go.Proofs.YtplgffbfepnihaaW.PrintWords Go.Proofs.YtplgffbfepnihaaW.PrintLast Go.Proofs.YtplgffbfepnihaaW.PrintMore Go.Proofs.Ytplgffbfepnihaa.Hi Go.Proofs.Ytplgffbfepnihaa.Q
theorem info5 : (Try.prog.info? 5).map (fun i => (i.zero, i.size, i.bytes)) = some (some (.int .u8 0), 1, 1) := by kernel_rfl
theorem info41 : (Try.prog.info? 41).map (fun i => (i.zero, i.size, i.bytes)) = some (some (.int .u64 0), 1, 8) := by kernel_rfl
end Go.Proofs.Ytplgffbfepnihaa.Vt
