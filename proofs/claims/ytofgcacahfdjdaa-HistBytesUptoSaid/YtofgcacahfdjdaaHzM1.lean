/- What the laws of this folder share, part 1: walks of functions over their Go text, and plain lemmas. Conditions: as each lemma says. -/
import Derived.DataShut
import Derived.Lib.SliceRun
import Derived.StillTailTactics
import Derived.Lib.Hide
import Derived.Laws.Rows
import Derived.Test.YtofgcacahfdjdaaProg
import Derived.Test.YtofgcacahfdjdaaRows
import Derived.Below
import Derived.Deep.Draws
import Derived.Deep.AppendLies
import Derived.Maps.AppendAt
import Derived.OwnWalk
import Derived.Laws.BytesArg
import Derived.Laws.MakeOwn
import Derived.Laws.OwnMore
import Derived.Deep.OwnRows
import Derived.Tactics
import Derived.Lib.ConvBytes
import Derived.Laws.Slices
import Derived.WalkKit
import Derived.KernelRfl
import Derived.RowKit3
import Derived.Deep.LoopGhost
import Derived.Deep.QuietTactic
import Derived.BigQuiet
import Derived.WideLaws
import Derived.Deep.DeepCutAuto
import Derived.Deep.CutBlock
import Derived.Deep.RegionHeld3
import Derived.Lib.AppendStr
import Derived.ArgAppend
import Derived.Laws.IdiomCopy
import Derived.OrdersHeld
import Derived.Laws.BitsLemmas
import Derived.RowKit
import Derived.SizedLaws
import Derived.ChangeArms
import Derived.Deep.Slices
import Derived.ProofKit
import Derived.Test.YtofgcacahfdjdaaHzM0
namespace Go.Proofs.Ytofgcacahfdjdaa.Q
open Go.RowKit Go.Proofs.YtofgcacahfdjdaaW.PrintWords Go.Proofs.YtofgcacahfdjdaaW.PrintLast Go.Proofs.YtofgcacahfdjdaaW.PrintMore
attribute [local go_sem] max2_int min2_int max_two min_two max_three min_three max_four min_four   -- for this text's walks alone
set_option linter.unusedVariables false
set_option linter.unusedSimpArgs false
def varveref08_Check.l0 : Nat → List Int → Int → Option (Bool)
  | 0, _, _ => none
  | k + 1, x0, x3 => if x3 < (x0.length : Int) then (if 0 ≤ x3 then (if 0 ≤ (wrap64 (x3 - 1)) then (if (wrap64 (x3 - 1)) < (x0.length : Int) then (if (rd x0 x3) ≤ (rd x0 (wrap64 (x3 - 1))) then (some false) else (varveref08_Check.l0 k x0 (wrap64 (x3 + 1)))) else (none)) else (none)) else (none)) else (some (decide ((x0.length : Int) ≤ 1024)))
def varveref08_Check.f (k : Nat) (l0 : List Int) : Option (Bool) := varveref08_Check.l0 k l0 1
theorem varveref08_Check.mono_l : ∀ k, (∀ y0 y1, LeO (varveref08_Check.l0 k y0 y1) (varveref08_Check.l0 (k + 1) y0 y1))
  | 0 => fun _ _ r h => by simp [varveref08_Check.l0] at h
  | k + 1 => by
    have ih0 := varveref08_Check.mono_l k
    · intro y0 y1
      unfold varveref08_Check.l0
      repeat' first
      | (with_reducible exact ih0 _ _)
      | (with_reducible exact LeO.refl _)
      | (with_reducible exact LeO.none _)
      | (with_reducible refine LeO.ite ?_ ?_)
      | (with_reducible refine LeO.bind ?_ (fun _ => ?_))
      | exact ih0 _ _
      | exact LeO.none _
      | refine LeO.ite ?_ ?_
      | refine LeO.bind ?_ (fun _ => ?_)
theorem varveref08_Check.mono : ∀ a0 k, LeO (varveref08_Check.f k a0) (varveref08_Check.f (k + 1) a0) := by
  intro a0 k
  have ih0 := varveref08_Check.mono_l k
  unfold varveref08_Check.f
  repeat' first
      | (with_reducible exact ih0 _ _)
      | (with_reducible exact LeO.refl _)
      | (with_reducible exact LeO.none _)
      | (with_reducible refine LeO.ite ?_ ?_)
      | (with_reducible refine LeO.bind ?_ (fun _ => ?_))
      | exact ih0 _ _
      | exact LeO.none _
      | refine LeO.ite ?_ ?_
      | refine LeO.bind ?_ (fun _ => ?_)
/-- THE ONE PURE STATEMENT of varveref08_Check: yours. -/
def varveref08_Check.Pure : Prop := ∀ (l0 : List Int), l0.length ≤ maxLen → l0.length * 8 ≤ 140737488351232 → (∀ x ∈ l0, (Lit.int .u64 x).wf = true) → ∃ k, varveref08_Check.f k l0 = some true
def fnv_More.l0 : Nat → Int → ByteArray → Int → Int → Option (Int)
  | 0, _, _, _, _ => none
  | k + 1, x0, x1, x7, x8 => if x8 < x7 then (if 0 ≤ x8 then (if x8 < (x1.size : Int) then (fnv_More.l0 k (IntKind.u64.wrap ((Go.bits .xor .u64 x0 (IntKind.u64.wrap (bt x1 x8))) * 1099511628211)) x1 x7 (wrap64 (x8 + 1))) else (none)) else (none)) else (some x0)
def fnv_More.f (k : Nat) (a0 : Int) (a1 : ByteArray) : Option (Int) := fnv_More.l0 k a0 a1 (a1.size : Int) 0
theorem fnv_More.mono_l : ∀ k, (∀ y0 y1 y2 y3, LeO (fnv_More.l0 k y0 y1 y2 y3) (fnv_More.l0 (k + 1) y0 y1 y2 y3))
  | 0 => fun _ _ _ _ r h => by simp [fnv_More.l0] at h
  | k + 1 => by
    have ih0 := fnv_More.mono_l k
    · intro y0 y1 y2 y3
      unfold fnv_More.l0
      repeat' first
      | (with_reducible exact ih0 _ _ _ _)
      | (with_reducible exact LeO.refl _)
      | (with_reducible exact LeO.none _)
      | (with_reducible refine LeO.ite ?_ ?_)
      | (with_reducible refine LeO.bind ?_ (fun _ => ?_))
      | exact ih0 _ _ _ _
      | exact LeO.none _
      | refine LeO.ite ?_ ?_
      | refine LeO.bind ?_ (fun _ => ?_)
theorem fnv_More.mono : ∀ a0 a1 k, LeO (fnv_More.f k a0 a1) (fnv_More.f (k + 1) a0 a1) := by
  intro a0 a1 k
  have ih0 := fnv_More.mono_l k
  unfold fnv_More.f
  repeat' first
      | (with_reducible exact ih0 _ _ _ _)
      | (with_reducible exact LeO.refl _)
      | (with_reducible exact LeO.none _)
      | (with_reducible refine LeO.ite ?_ ?_)
      | (with_reducible refine LeO.bind ?_ (fun _ => ?_))
      | exact ih0 _ _ _ _
      | exact LeO.none _
      | refine LeO.ite ?_ ?_
      | refine LeO.bind ?_ (fun _ => ?_)
def fnv_Of.f (k : Nat) (a0 : ByteArray) : Option (Int) := (fnv_More.f k 14695981039346656037 a0).bind fun t128 => (some t128)
theorem fnv_Of.mono : ∀ a0 k, LeO (fnv_Of.f k a0) (fnv_Of.f (k + 1) a0) := by
  intro a0 k
  unfold fnv_Of.f
  repeat' first
      | (with_reducible exact fnv_More.mono _ _ _)
      | (with_reducible exact LeO.refl _)
      | (with_reducible exact LeO.none _)
      | (with_reducible refine LeO.ite ?_ ?_)
      | (with_reducible refine LeO.bind ?_ (fun _ => ?_))
      | exact fnv_More.mono _ _ _
      | exact LeO.none _
      | refine LeO.ite ?_ ?_
      | refine LeO.bind ?_ (fun _ => ?_)
def varvelaw00_SameNums.l0 : Nat → List Int → List Int → Int → Option (Bool)
  | 0, _, _, _ => none
  | k + 1, x0, x1, x5 => if x5 < (x0.length : Int) then (if 0 ≤ x5 then (if x5 < (x1.length : Int) then (if (rd x0 x5) = (rd x1 x5) then (varvelaw00_SameNums.l0 k x0 x1 (wrap64 (x5 + 1))) else (some false)) else (none)) else (none)) else (some true)
def varvelaw00_SameNums.f (k : Nat) (l0 : List Int) (l1 : List Int) : Option (Bool) := if (l0.length : Int) = (l1.length : Int) then (varvelaw00_SameNums.l0 k l0 l1 0) else (some false)
theorem varvelaw00_SameNums.mono_l : ∀ k, (∀ y0 y1 y2, LeO (varvelaw00_SameNums.l0 k y0 y1 y2) (varvelaw00_SameNums.l0 (k + 1) y0 y1 y2))
  | 0 => fun _ _ _ r h => by simp [varvelaw00_SameNums.l0] at h
  | k + 1 => by
    have ih0 := varvelaw00_SameNums.mono_l k
    · intro y0 y1 y2
      unfold varvelaw00_SameNums.l0
      repeat' first
      | (with_reducible exact ih0 _ _ _)
      | (with_reducible exact LeO.refl _)
      | (with_reducible exact LeO.none _)
      | (with_reducible refine LeO.ite ?_ ?_)
      | (with_reducible refine LeO.bind ?_ (fun _ => ?_))
      | exact ih0 _ _ _
      | exact LeO.none _
      | refine LeO.ite ?_ ?_
      | refine LeO.bind ?_ (fun _ => ?_)
theorem varvelaw00_SameNums.mono : ∀ a0 a1 k, LeO (varvelaw00_SameNums.f k a0 a1) (varvelaw00_SameNums.f (k + 1) a0 a1) := by
  intro a0 a1 k
  have ih0 := varvelaw00_SameNums.mono_l k
  unfold varvelaw00_SameNums.f
  repeat' first
      | (with_reducible exact ih0 _ _ _)
      | (with_reducible exact LeO.refl _)
      | (with_reducible exact LeO.none _)
      | (with_reducible refine LeO.ite ?_ ?_)
      | (with_reducible refine LeO.bind ?_ (fun _ => ?_))
      | exact ih0 _ _ _
      | exact LeO.none _
      | refine LeO.ite ?_ ?_
      | refine LeO.bind ?_ (fun _ => ?_)
/-- THE ONE PURE STATEMENT of varvelaw00_SameNums: yours. -/
def varvelaw00_SameNums.Pure : Prop := ∀ (l0 : List Int) (l1 : List Int), l0.length ≤ maxLen → l0.length * 8 ≤ 140737488351232 → (∀ x ∈ l0, (Lit.int .u64 x).wf = true) → l1.length ≤ maxLen → l1.length * 8 ≤ 140737488351232 → (∀ x ∈ l1, (Lit.int .u64 x).wf = true) → ∃ k, varvelaw00_SameNums.f k l0 l1 = some true
end Go.Proofs.Ytofgcacahfdjdaa.Q
namespace Go.Proofs.Ytofgcacahfdjdaa.Pure
set_option linter.unusedVariables false
set_option linter.unusedSimpArgs false
open Go.RowKit Go.Proofs.Ytofgcacahfdjdaa.Q Go.Proofs.YtofgcacahfdjdaaW.PrintWords Go.Proofs.YtofgcacahfdjdaaW.PrintLast Go.Proofs.YtofgcacahfdjdaaW.PrintMore
/-- A number of 64 bits. -/
def U (x : Int) : Prop := 0 ≤ x ∧ x < 18446744073709551616
theorem U.of_wf {x : Int} (h : (Lit.int .u64 x).wf = true) : U x := by
  have h2 := (Lit.wf_int_iff .u64 x).mp h
  simp [IntKind.min, IntKind.max, IntKind.bits, IntKind.signed] at h2
  exact ⟨by omega, by omega⟩
theorem wu (n : Int) : IntKind.u64.wrap n = n % 18446744073709551616 := IntKind.wrap_u64 n
theorem wu_in {n : Int} (h0 : 0 ≤ n) (h1 : n < 18446744073709551616) : IntKind.u64.wrap n = n := by rw [wu]; omega
theorem mul_U {a b : Int} (ha : U a) (hb : U b) : 0 ≤ a * b ∧ a * b ≤ 340282366920938463426481119284349108225 := by
  have h0 := Int.mul_nonneg ha.1 hb.1
  have h1 : a * b ≤ 18446744073709551615 * 18446744073709551615 := Int.mul_le_mul (by have := ha.2; omega) (by have := hb.2; omega) hb.1 (by omega)
  exact ⟨h0, by omega⟩
theorem full_eq {a b : Int} (ha : U a) (hb : U b) : wide_full.f a b = some (a * b / 18446744073709551616, a * b % 18446744073709551616) := by
  unfold wide_full.f bits_Mul64.f
  rw [if_pos ⟨ha.1, ha.2, hb.1, hb.2⟩]
  rfl
theorem full_U {a b : Int} (ha : U a) (hb : U b) : U (a * b / 18446744073709551616) ∧ U (a * b % 18446744073709551616) := by
  have := mul_U ha hb
  exact ⟨⟨by omega, by omega⟩, ⟨by omega, by omega⟩⟩
/-- The division of 128 bits by 64, as the chapter says it. -/
def div128 (h l d : Int) : Int × Int × Bool := if h < d then ((h * 18446744073709551616 + l) / d, (h * 18446744073709551616 + l) % d, true) else (0, 0, false)
theorem divide_eq {h l d : Int} (hh : U h) (hl : U l) (hd : U d) : wide_divide.f h l d = some (div128 h l d) := by
  unfold wide_divide.f div128
  by_cases c : h < d
  · rw [if_neg (by omega), if_pos c]
    unfold bits_Div64.f
    rw [if_pos ⟨hh.1, c, hl.1, hl.2, hd.2⟩]; rfl
  · rw [if_pos (by omega), if_neg c]
theorem div128_facts {h l d : Int} (hh : U h) (hl : U l) (hd : U d) (c : h < d) : U ((h * 18446744073709551616 + l) / d) ∧ 0 ≤ (h * 18446744073709551616 + l) % d ∧ (h * 18446744073709551616 + l) % d < d ∧
    d * ((h * 18446744073709551616 + l) / d) + (h * 18446744073709551616 + l) % d = h * 18446744073709551616 + l := by
  have p : 0 < d := by have := hh.1; omega
  have h0 := hh.1; have l0 := hl.1; have l1 := hl.2; have d1 := hd.2
  refine ⟨⟨Int.ediv_nonneg (by omega) (by omega), Int.ediv_lt_of_lt_mul p ?_⟩, Int.emod_nonneg _ (by omega), Int.emod_lt_of_pos _ p, Int.mul_ediv_add_emod _ _⟩
  omega
theorem shr_nat (x s : Nat) (hs : s ≤ 64) : shr .u64 (x : Int) (s : Int) = ((x / 2 ^ s : Nat) : Int) := D.shr_nat x s hs
def pr (a b d : Int) : Int × Int × Bool := div128 (a * b / 18446744073709551616) (a * b % 18446744073709551616) d
def ceil128 (x : Int × Int × Bool) : Int × Bool := if x.2.2 = false then (0, false) else if x.2.1 > 0 then (if x.1 = 18446744073709551615 then (0, false) else (x.1 + 1, true)) else (x.1, true)
theorem div128_no {h l d : Int} (c : ¬ h < d) : div128 h l d = (0, 0, false) := if_neg c
theorem div128_yes {h l d : Int} (c : h < d) : div128 h l d = ((h * 18446744073709551616 + l) / d, (h * 18446744073709551616 + l) % d, true) := if_pos c
theorem pr_yes {a b d : Int} (ha : U a) (hb : U b) (hd : U d) (c : a * b / 18446744073709551616 < d) :
    pr a b d = (a * b / d, a * b % d, true) ∧ U (a * b / d) ∧ 0 ≤ a * b % d ∧ a * b % d < d ∧ d * (a * b / d) + a * b % d = a * b := by
  obtain ⟨f1, f2⟩ := full_U ha hb
  obtain ⟨g1, g2, g3, g4⟩ := div128_facts f1 f2 hd c
  have e : a * b / 18446744073709551616 * 18446744073709551616 + a * b % 18446744073709551616 = a * b := by omega
  unfold pr
  rw [div128_yes c]
  rw [e] at g1 g2 g3 g4 ⊢
  exact ⟨rfl, g1, g2, g3, g4⟩
theorem Ceil_eq {a b d : Int} (ha : U a) (hb : U b) (hd : U d) (k : Nat) (hk : 1 ≤ k) : wide_Ceil.f k a b d = some (ceil128 (pr a b d)) := by
  obtain ⟨f1, f2⟩ := full_U ha hb
  obtain ⟨k, rfl⟩ : ∃ m, k = m + 1 := ⟨k - 1, by omega⟩
  unfold wide_Ceil.f
  rw [full_eq ha hb]
  simp only [Option.bind_some]
  rw [divide_eq f1 f2 hd]
  simp only [Option.bind_some]
  by_cases c : a * b / 18446744073709551616 < d
  · obtain ⟨e, u, r0, r1, r2⟩ := pr_yes ha hb hd c
    unfold pr at e ⊢
    rw [e]
    have q1 := u.1; have q2 := u.2
    clear e r2
    generalize a * b / d = Q at *
    generalize a * b % d = R at *
    by_cases p : R > 0
    · by_cases q : Q = 18446744073709551615
      · simp [wide_Ceil.j0, ceil128, p, q]
      · simp [wide_Ceil.j0, ceil128, p, q]
        exact wu_in (by omega) (by omega)
    · have : R = 0 := by omega
      simp [wide_Ceil.j0, ceil128, this]
  · unfold pr
    rw [div128_no c]
    simp [wide_Ceil.j0, ceil128]
end Go.Proofs.Ytofgcacahfdjdaa.Pure
namespace Go.Proofs.Ytofgcacahfdjdaa
set_option linter.unusedVariables false
set_option linter.unusedSimpArgs false
open Go.RowKit Go.Proofs.YtofgcacahfdjdaaW.PrintWords Go.Proofs.YtofgcacahfdjdaaW.PrintLast Go.Proofs.YtofgcacahfdjdaaW.PrintMore
/-- The cells of the counts. -/
def hcells (l : List Int) : Array Value := (l.map (Value.int .u64)).toArray
theorem hcells_get (l : List Int) (i : Nat) : (hcells l)[i]? = (l[i]?).map (Value.int .u64) := by simp [hcells]
theorem hcells_size (l : List Int) : (hcells l).size = l.length := by simp [hcells]
theorem hcells_set (l : List Int) (i : Nat) (x : Int) : (hcells l).setIfInBounds i (.int .u64 x) = hcells (l.set i x) := by
  simp [hcells, List.map_set]
/-- No count at all. -/
def hzero (n : Nat) : List Int := List.replicate n 0
theorem hzero_length (n : Nat) : (hzero n).length = n := by simp [hzero]
theorem hzero_cells (n i : Nat) (h : i < n) : (hcells (hzero n))[i]? = some (.int .u64 0) := by
  rw [hcells_get, hzero, List.getElem?_replicate, if_pos h]; rfl
theorem heap_setCells (b : Nat) (T : TypeId) (news : List Value) : ∀ (o : Nat) (w : World) (cs : Array Value), w.heap[b]? = some (.cells cs T (0, 0)) →
    ∃ cs' : Array Value, (w.setCells b o news).heap[b]? = some (.cells cs' T (0, 0)) ∧ cs'.size = cs.size ∧ ∀ j, j < cs.size → cs'[j]? = if o ≤ j ∧ j < o + news.length then news[j - o]? else cs[j]? := by
  induction news with
  | nil => intro o w cs h; exact ⟨cs, h, rfl, fun j _ => by rw [if_neg (by simp)]⟩
  | cons v news ih =>
    intro o w cs h
    obtain ⟨cs', h1, h2, h3⟩ := ih (o + 1) (w.setCell ⟨b, o, none⟩ v) _ (blk_set h o v)
    refine ⟨cs', h1, by rw [h2]; simp, fun j hj => ?_⟩
    rw [h3 j (by simpa using hj)]
    by_cases c : o = j
    · subst c
      rw [if_neg (by omega), if_pos (by simp)]
      simp [hj]
    · simp only [List.length_cons]
      by_cases d : o + 1 ≤ j ∧ j < o + 1 + news.length
      · rw [if_pos d, if_pos (by omega), show j - o = (j - (o + 1)) + 1 by omega, List.getElem?_cons_succ]
      · rw [if_neg d, if_neg (by omega), Array.getElem?_setIfInBounds, if_neg c]
theorem below_setCells {n : Nat} {w : World} (b : Nat) (hb : n ≤ b) : ∀ (news : List Value) (o : Nat) {w' : World}, Below n w w' → Below n w (w'.setCells b o news)
  | [], _, _, h => h
  | v :: news, o, _, h => below_setCells b hb news (o + 1) (h.setCell hb v)
set_option maxHeartbeats 400000 in
set_option maxRecDepth 100000 in
theorem new_any (w : World) :
    Calls Try.prog 39 #[] w fun e w' => e = .returned (.pointer (some ⟨w.heap.size, 0, none⟩)) ∧ w'.heap[w.heap.size]? = some (.cells (hcells (hzero 7424)) 99 (0, 0)) ∧ Below w.heap.size w w' := by
  have hw : (w.alloc (.cells Try.zeroCells99 99)).heap[w.heap.size]? = some (.cells Try.zeroCells99 99 (0, 0)) := blk_new w _
  have hcl : ∀ ty, (Builtin.clear_ #[39] ty #[.slice (some ⟨w.heap.size, 0, none⟩) 7424 7424]).run Try.prog (w.alloc (.cells Try.zeroCells99 99)) = .ok (.tuple #[]) ((w.alloc (.cells Try.zeroCells99 99)).setCells w.heap.size 0 (List.replicate 7424 (.int .u64 0))) := fun ty =>
    Lib.run_clear_slice _ 39 49 ty (.int .u64 0) Try.underlying39 Try.zeroValue49 rfl rfl w.heap.size 0 7424 7424 (by omega) (fun j hj => by rw [blk_cell hw, Array.getElem?_eq_getElem (by rw [Try.zeroCells99_size]; omega)]; rfl) (fun j hj => blk_frozen hw _)
  go_enter Try.func39, Try.ntmps39
  go_wp2
  refine bodyPost_ret (v := .pointer (some ⟨w.heap.size, 0, none⟩)) (by simp [results, Try.results39, go_sem]) rfl ⟨rfl, ?_, ?_⟩
  · obtain ⟨cs', h1, h2, h3⟩ := heap_setCells w.heap.size 99 (List.replicate 7424 (.int .u64 0)) 0 _ _ hw
    have e : cs' = hcells (hzero 7424) := by
      rw [Try.zeroCells99_size] at h2 h3
      refine Array.ext (by rw [h2, hcells_size, hzero_length]) fun i hi hj => ?_
      have := h3 i (by omega)
      rw [if_pos (by rw [List.length_replicate]; omega), Array.getElem?_eq_getElem hi, List.getElem?_replicate, if_pos (by omega)] at this
      rw [Option.some.inj this]
      have h4 := hzero_cells 7424 i (by omega)
      rw [Array.getElem?_eq_getElem hj] at h4
      exact (Option.some.inj h4).symm
    rw [← e]; exact h1
  · exact below_setCells _ (Nat.le_refl _) _ _ ((Below.refl _ _).alloc (Nat.le_refl _) _)
end Go.Proofs.Ytofgcacahfdjdaa
namespace Go.Proofs.Ytofgcacahfdjdaa
set_option linter.unusedVariables false
set_option linter.unusedSimpArgs false
open Go.RowKit Go.Proofs.YtofgcacahfdjdaaW.PrintWords Go.Proofs.YtofgcacahfdjdaaW.PrintLast Go.Proofs.YtofgcacahfdjdaaW.PrintMore
theorem bitLen_bounds (y : Nat) (h : 256 ≤ y) (hy : y < 18446744073709551616) : ∃ e : Nat, Lib.bitLen y = e + 8 ∧ 1 ≤ e ∧ e ≤ 56 ∧ 128 ≤ y / 2 ^ e ∧ y / 2 ^ e < 256 ∧ 2 ^ (e + 7) ≤ y ∧ y < 2 ^ (e + 8) := by
  obtain ⟨s, hs, hL, h0, h1⟩ := D.bitLen_log y (by omega) hy
  have lo : 2 ^ (63 - s) ≤ y := by
    refine Nat.le_of_mul_le_mul_right (c := 2 ^ s) ?_ (Nat.two_pow_pos s)
    rw [← Nat.pow_add, show 63 - s + s = 63 by omega]
    simpa using h0
  have hi : y < 2 ^ (64 - s) := by
    refine Nat.lt_of_mul_lt_mul_right (a := 2 ^ s) ?_
    rw [← Nat.pow_add, show 64 - s + s = 64 by omega]
    simpa using h1
  have hs8 : s ≤ 55 := by
    refine Nat.le_of_not_lt fun hc => ?_
    have : 2 ^ (64 - s) ≤ 2 ^ 8 := Nat.pow_le_pow_right (by decide) (by omega)
    have : (2 : Nat) ^ 8 = 256 := rfl
    omega
  refine ⟨56 - s, by omega, by omega, by omega, ?_, ?_, ?_, ?_⟩
  · rw [Nat.le_div_iff_mul_le (Nat.two_pow_pos _)]
    rw [show (63 - s) = 7 + (56 - s) by omega, Nat.pow_add] at lo
    exact lo
  · refine Nat.div_lt_of_lt_mul ?_
    rw [show (64 - s) = (56 - s) + 8 by omega, Nat.pow_add] at hi
    exact hi
  · rw [show 56 - s + 7 = 63 - s by omega]; exact lo
  · rw [show 56 - s + 8 = 64 - s by omega]; exact hi
/-- A number's bucket. -/
def bucketN (v : Nat) : Nat := if v < 256 then v else 128 * (Lib.bitLen v - 8) + v / 2 ^ (Lib.bitLen v - 8)
theorem bucketN_lt (v : Nat) (hv : v < 18446744073709551616) : bucketN v < 7424 := by
  unfold bucketN
  by_cases h : v < 256
  · rw [if_pos h]; omega
  · obtain ⟨e, h1, h2, h3, h4, h5, _⟩ := bitLen_bounds v (by omega) hv
    rw [if_neg h, h1, Nat.add_sub_cancel]; omega
set_option maxHeartbeats 400000 in
theorem bucket_small (v : Nat) (w : World) (h : v < 256) :
    Calls Try.prog 44 #[.int .u64 (v : Int)] w fun e w' => e = .returned (.int .i64 (v : Int)) ∧ w = w' := by
  have hb : decide ((v : Int) < 256) = true := decide_eq_true (by omega)
  go_enter Try.func44, Try.ntmps44
  go_wp2
  go_ret
  exact ⟨rfl, rfl⟩
set_option maxHeartbeats 400000 in
theorem bucket_great (v q e : Nat) (w : World) (h : 256 ≤ v) (hv : v < 18446744073709551616) (hL : Lib.bitLen v = e + 8) (he : e ≤ 56) (hq : v / 2 ^ e = q) (hq2 : q < 256) :
    Calls Try.prog 44 #[.int .u64 (v : Int)] w fun e' w' => e' = .returned (.int .i64 ((128 * e + q : Nat) : Int)) ∧ w = w' := by
  have hb : decide ((v : Int) < 256) = false := decide_eq_false (by omega)
  have hC := fun w => Try.bits_Len64 (v : Int) w (by omega) (by omega)
  rw [Int.toNat_natCast, hL] at hC
  have H := Lib.hid hL; have HQ := Lib.hid hq
  clear hL hq
  go_enter Try.func44, Try.ntmps44
  go_wp2_with (go_at_call 68; refine (hC _).mono ?_; rintro e w' ⟨rfl, rfl⟩)
  go_ret
  have E : wrap64 (128 * (e : Int) + wrap64 ((v : Int) / 2 ^ e)) = ((128 * e + q : Nat) : Int) := by
    have e1 : (v : Int) / 2 ^ e = (q : Int) := by rw [← HQ.out, Int.natCast_ediv, Int.natCast_pow]; rfl
    rw [e1]; unfold wrap64; omega
  exact ⟨congrArg (fun x => Ending.returned (Value.int IntKind.i64 x)) E, rfl⟩
theorem bucket_any (v : Nat) (w : World) (hv : v < 18446744073709551616) :
    Calls Try.prog 44 #[.int .u64 (v : Int)] w fun e w' => e = .returned (.int .i64 (bucketN v : Int)) ∧ w = w' := by
  by_cases h : v < 256
  · rw [show bucketN v = v from if_pos h]; exact bucket_small v w h
  · obtain ⟨e, h1, h2, h3, h4, h5, _⟩ := bitLen_bounds v (by omega) hv
    rw [show bucketN v = 128 * e + v / 2 ^ e by unfold bucketN; rw [if_neg h, h1, Nat.add_sub_cancel]]
    exact bucket_great v _ e w (by omega) hv h1 h3 rfl h5
def hold (x : Int) : Int := if x < 18446744073709551616 then x else 18446744073709551615
theorem wadd_any (a0 a1 : Int) (w : World) (h0 : 0 ≤ a0) (h1 : a0 < 18446744073709551616) (h2 : 0 ≤ a1) (h3 : a1 < 18446744073709551616) :
    Calls Try.prog 64 #[.int .u64 a0, .int .u64 a1] w fun e w' => e = .returned (.int .u64 (hold (a0 + a1))) ∧ w = w' := add_eq a0 a1 w h0 h1 h2 h3
set_option maxHeartbeats 400000 in
set_option maxRecDepth 100000 in
theorem hadd_any (g at_ : Nat) (l : List Int) (v : Nat) (n x : Int) (w : World) (hv : v < 18446744073709551616) (hH : w.heap[g]? = some (.cells (hcells l) 99 (0, 0)))
    (hat : bucketN v = at_) (hlt : at_ < 7424) (hx : l[at_]? = some x) (hx0 : 0 ≤ x) (hx1 : x < 18446744073709551616) (n0 : 0 ≤ n) (n1 : n < 18446744073709551616) :
    Calls Try.prog 40 #[.pointer (some ⟨g, 0, none⟩), .int .u64 (v : Int), .int .u64 n] w fun e w' => e = .returned (.tuple #[]) ∧ ∃ m, w' = (w.drewN m).setCell ⟨g, at_, none⟩ (.int .u64 (hold (x + n))) := by
  have hB := fun w => bucket_any v w hv
  rw [hat] at hB
  have hA := fun w => wadd_any x n w hx0 hx1 n0 n1
  have hc : w.cell? ⟨g, at_, none⟩ = some (.int .u64 x) := by rw [blk_cell hH, hcells_get, hx]; rfl
  have hf : w.frozen? ⟨g, at_, none⟩ = false := blk_frozen hH _
  have HH := Lib.hid hH
  clear hH hat hx
  go_enter Try.func40, Try.ntmps40
  go_wp2_with (go_at_call 44; refine (hB _).mono ?_; rintro e w' ⟨rfl, rfl⟩)
  refine wp_region_still_tail 13 (by kernel_rfl) (by kernel_rfl) ?_
  simp only [List.take_succ_cons, List.take_zero, List.drop_succ_cons, List.drop_zero]
  change wpStill _ _ w.drew _ _ _
  have hc2 : w.drew.cell? ⟨g, at_, none⟩ = some (.int .u64 x) := hc
  have hf2 : w.drew.frozen? ⟨g, at_, none⟩ = false := hf
  have hlt2 : ((at_ : Int) < 7424) = True := eq_true (by omega)
  obtain ⟨w2, hw2⟩ : ∃ w2, w.drew = w2 := ⟨_, rfl⟩
  rw [hw2] at hc2 hf2 ⊢
  have HW := Lib.hid hw2; clear hw2
  repeat still_step
  still_call ((hA w2).mono fun _ _ ⟨he, hw⟩ => ⟨he, hw.symm⟩)
  repeat still_step
  refine wpStill_nil ?_
  change wpList _ _ _ _ _ w.drew
  rw [HW.out]
  clear hc hf
  go_wp2
  go_end0
  exact ⟨rfl, 1, by rw [← HW.out]; rfl⟩
def hsum (l : List Int) : Int := l.foldl (fun s x => hold (s + x)) 0
def Cnt (l : List Int) : Prop := ∀ x ∈ l, 0 ≤ x ∧ x < 18446744073709551616
theorem hold_range {x : Int} (h : 0 ≤ x) : 0 ≤ hold x ∧ hold x < 18446744073709551616 := by unfold hold; split <;> omega
theorem hsum_range (l : List Int) (h : Cnt l) : 0 ≤ hsum l ∧ hsum l < 18446744073709551616 := by
  have key : ∀ (l : List Int) (s : Int), Cnt l → 0 ≤ s ∧ s < 18446744073709551616 → 0 ≤ l.foldl (fun s x => hold (s + x)) s ∧ l.foldl (fun s x => hold (s + x)) s < 18446744073709551616 := by
    intro l
    induction l with
    | nil => intro s _ hs; exact hs
    | cons x l ih =>
      intro s hl hs
      have := hl x (by simp)
      exact ih _ (fun y hy => hl y (by simp [hy])) (hold_range (by omega))
  exact key l 0 h ⟨by omega, by omega⟩
theorem hsum_snoc (l : List Int) (x : Int) : hsum (l ++ [x]) = hold (hsum l + x) := by simp [hsum, List.foldl_append]
theorem Cnt.take {l : List Int} (h : Cnt l) (n : Nat) : Cnt (l.take n) := fun x hx => h x (List.mem_of_mem_take hx)
end Go.Proofs.Ytofgcacahfdjdaa
namespace Go.Proofs.Ytofgcacahfdjdaa
set_option linter.unusedVariables false
set_option linter.unusedSimpArgs false
open Go.RowKit Go.Proofs.YtofgcacahfdjdaaW.PrintWords Go.Proofs.YtofgcacahfdjdaaW.PrintLast Go.Proofs.YtofgcacahfdjdaaW.PrintMore
set_option maxHeartbeats 1000000 in
set_option maxRecDepth 100000 in
theorem upto_any (g at_ : Nat) (l : List Int) (w : World) (hH : w.heap[g]? = some (.cells (hcells l) 99 (0, 0))) (hl : l.length = 7424) (hr : Cnt l) (hat : at_ < 7424) :
    Calls Try.prog 84 #[.pointer (some ⟨g, 0, none⟩), .int .i64 (at_ : Int)] w fun e w' => e = .returned (.int .u64 (hsum (l.take (at_ + 1)))) ∧ w = w' := by
  have hc : ∀ k, k < 7424 → w.cell? ⟨g, k, none⟩ = some (.int .u64 (l.getD k 0)) := fun k hk => by
    rw [blk_cell hH, hcells_get, List.getElem?_eq_getElem (by omega)]
    simp [List.getD, List.getElem?_eq_getElem (show k < l.length by omega)]
  have HC := Lib.hid hc
  have HL := Lib.hid hl
  have HH := Lib.hid hH
  have hsl : ∀ w : World, (Instr.sliceAt 97 (.pointer (some ⟨g, 0, none⟩)) none (some (.int .i64 ((at_ : Int) + 1))) none).run Try.prog w = .ok (.slice (some ⟨g, 0, none⟩) (at_ + 1) 7424) w := fun w => by
    have hlen : Try.prog.arrayLen 97 = 7424 := by kernel_rfl
    have hel : Try.prog.elem 97 = 49 := by kernel_rfl
    have hun : Try.prog.underlying 97 = some (.array (Try.prog.arrayLen 97) (Try.prog.elem 97)) := by rw [hlen, hel]; exact Try.underlying97
    rw [run_sliceAt_array_h w 97 ⟨g, 0, none⟩ hun .i64 ((at_ : Int) + 1) (by omega) (by rw [hlen]; omega), hel, hlen, Try.sizeOf49]
    have e1 : ((at_ : Int) + 1).toNat = at_ + 1 := by omega
    simp only [Result.andThen, slicedAt, e1, Nat.sub_zero]
    by_cases c : 7424 = 0
    · omega
    · simp [c, Addr.add]
  clear hc hl hH
  go_enter Try.func84, Try.ntmps84
  go_wp2
  go_loop [5, 7, 17] (fun s _ i => ∃ k : Nat, k ≤ at_ + 1 ∧ i = .int .i64 k ∧ s = .int .u64 (hsum (l.take k))) (fun _ _ i => at_ + 1 - (intOf i).toNat)
  case atStart => exact ⟨0, Nat.zero_le _, rfl, rfl⟩
  case round =>
    obtain ⟨k, hk, rfl, rfl⟩ := hrel
    by_cases hlt : k < at_ + 1
    · have hl := HL.out
      obtain ⟨y, hy⟩ : ∃ y, l.getD k 0 = y := ⟨_, rfl⟩
      have hcell : w.cell? ⟨g, k, none⟩ = some (.int .u64 y) := by rw [← hy]; exact HC.out k (by omega)
      have hk2 : l[k]? = some y := by rw [← hy, List.getD, List.getElem?_eq_getElem (show k < l.length by omega)]; rfl
      have hx := hr _ (List.mem_of_getElem? hk2)
      have hs := hsum_range _ (hr.take k)
      have hsn : hsum (l.take (k + 1)) = hold (hsum (l.take k) + y) := by
        rw [List.take_add_one, hk2]; exact hsum_snoc _ _
      have HS := Lib.hid hsn
      have A := fun w => wadd_any (hsum (l.take k)) y w hs.1 hs.2 hx.1 hx.2
      clear hl hk2 hsn hx hs hy
      go_wp2_with (go_at_call 64; refine (A _).mono ?_; rintro e w' ⟨rfl, rfl⟩)
      go_round
      case rel => exact ⟨k + 1, by omega, by go_num, by rw [HS.out]⟩
      case measure => simp [intOf]; omega
    · have hk3 : at_ + 1 = k := by omega
      subst hk3
      go_wp2
      go_ret
      exact ⟨rfl, rfl⟩
set_option maxHeartbeats 400000 in
theorem count_any (g : Nat) (l : List Int) (w : World) (hH : w.heap[g]? = some (.cells (hcells l) 99 (0, 0))) (hl : l.length = 7424) (hr : Cnt l) :
    Calls Try.prog 65 #[.pointer (some ⟨g, 0, none⟩)] w fun e w' => e = .returned (.tuple #[.int .u64 (hsum l), .int .i64 (if hsum l = 18446744073709551615 then 11 else 0)]) ∧ w = w' := by
  have U := upto_any g 7423 l w hH hl hr (by omega)
  rw [show l.take (7423 + 1) = l from List.take_of_length_le (by omega)] at U
  clear hH hl
  by_cases hc : hsum l = 18446744073709551615
  · have hb : (hsum l == 18446744073709551615) = true := beq_iff_eq.mpr hc
    rw [if_pos hc]
    clear hc
    go_enter Try.func65, Try.ntmps65
    go_wp2_with (go_at_call 84; refine U.mono ?_; rintro e w' ⟨rfl, rfl⟩)
    go_ret2
    exact ⟨rfl, rfl⟩
  · have hb : (hsum l == 18446744073709551615) = false := beq_eq_false_iff_ne.mpr hc
    rw [if_neg hc]
    clear hc
    go_enter Try.func65, Try.ntmps65
    go_wp2_with (go_at_call 84; refine U.mono ?_; rintro e w' ⟨rfl, rfl⟩)
    go_ret2
    exact ⟨rfl, rfl⟩
end Go.Proofs.Ytofgcacahfdjdaa
namespace Go.Proofs.Ytofgcacahfdjdaa
set_option linter.unusedVariables false
set_option linter.unusedSimpArgs false
open Go.RowKit Go.Proofs.YtofgcacahfdjdaaW.PrintWords Go.Proofs.YtofgcacahfdjdaaW.PrintLast Go.Proofs.YtofgcacahfdjdaaW.PrintMore
theorem run_index97 (l : List Int) (k : Nat) (y : Int) (w : World) (hk : k < 7424) (hy : l[k]? = some y) : (Instr.index 97 (.agg (hcells l)) (.int .i64 (k : Int))).run Try.prog w = .ok (.int .u64 y) w := by
  have hg : (hcells l)[k]? = some (.int .u64 y) := by rw [hcells_get, hy]; rfl
  have hu := run_underlying (P := Try.prog) (w := w) Try.underlying97
  have hi : (0 ≤ (k : Int) ∧ (k : Int) < 7424) := by omega
  simp [Instr.index, asIntOf, hu, hi, part, Try.sizeOf49, Try.isAgg49, hg]
  intro h; omega
/-- The sum of numbers, not held. -/
def psum (l : List Int) : Int := l.foldl (· + ·) 0
theorem psum_snoc (l : List Int) (x : Int) : psum (l ++ [x]) = psum l + x := by simp [psum, List.foldl_append]
theorem info97 : (Try.prog.info? 97).map (·.size) = some 7424 := by kernel_rfl
set_option maxHeartbeats 1000000 in
set_option maxRecDepth 100000 in
/-- Quantile, where there is a count and a rank: 'r' is the bucket in which the rank is. -/
theorem quant_walk (g : Nat) (l : List Int) (a b n q k v : Int) (r : Nat) (tr tv : Bool) (w : World) (hH : w.heap[g]? = some (.cells (hcells l) 99 (0, 0))) (hl : l.length = 7424) (hr : Cnt l)
    (hb : (b == 0) = false) (hab : decide (b < a) = false) (hn : hsum l = n) (hs : (n == 18446744073709551615) = false) (hz : (n == 0) = false)
    (hC : ∀ w, Calls Try.prog 66 #[.int .u64 a, .int .u64 n, .int .u64 b] w fun e w' => e = .returned (.tuple #[.int .u64 q, .bool tr]) ∧ Below w.heap.size w w')
    (hk : max 1 q = k)
    (hL : ∀ w, Calls Try.prog 42 #[.int .i64 (r : Int)] w fun e w' => e = .returned (.tuple #[.int .u64 v, .bool tv]) ∧ Drawn0 w w')
    (hr1 : r < 7424) (hr2 : k ≤ psum (l.take (r + 1))) (hr3 : ∀ j, j < r → psum (l.take (j + 1)) < k) (hp : ∀ j, j ≤ r + 1 → 0 ≤ psum (l.take j) ∧ psum (l.take j) < 18446744073709551616) :
    Calls Try.prog 41 #[.pointer (some ⟨g, 0, none⟩), .int .u64 a, .int .u64 b] w fun e w' => e = .returned (.tuple #[.int .u64 v, .int .i64 0]) ∧ Below w.heap.size w w' := by
  have CO := count_any g l w hH hl hr
  rw [hn, if_neg (by simpa using hs)] at CO
  have HH := Lib.hid hH; have HL := Lib.hid hl; have HN := Lib.hid hn; have HP := Lib.hid hp; have HR2 := Lib.hid hr2; have HR3 := Lib.hid hr3
  clear hH hl hn hp hr2 hr3 hs
  go_enter Try.func41, Try.ntmps41
  go_wp2_with (first | (go_at_call 65; refine CO.mono ?_; rintro e w' ⟨rfl, rfl⟩) | (go_at_call 66; refine (hC _).mono ?_; rintro e w1 ⟨rfl, hb1⟩))
  go_step3
  go_wp2_with (first | (go_at_call 65; refine CO.mono ?_; rintro e w' ⟨rfl, rfl⟩) | (go_at_call 66; refine (hC _).mono ?_; rintro e w1 ⟨rfl, hb1⟩))
  have H1 := blk_below HH.out hb1
  have HH1 := Lib.hid H1
  have hinfo : (Try.prog.info? 97).map (·.size) = some (hcells l).size := by rw [info97, hcells_size, HL.out]
  clear H1
  go_step3
  go_wp2_with (refine wpList_load_row rfl _ _ rfl g rfl 99 (hcells l) (0, 0) _ HH1.out Try.underlying97 rfl hinfo ?_)
  clear hinfo HH1 hC CO hb hab hz hk
  go_wp2
  go_loop [12, 14, 15, 48] (fun s _ _ i => ∃ j : Nat, j ≤ r ∧ i = .int .i64 j ∧ s = .int .u64 (psum (l.take j))) (fun _ _ _ i => 7424 - (intOf i).toNat)
  case atStart => exact ⟨0, Nat.zero_le _, rfl, rfl⟩
  case round =>
    obtain ⟨j, hj, rfl, rfl⟩ := hrel
    have hj2 : j < 7424 := by omega
    have hl := HL.out
    obtain ⟨y, hy⟩ : ∃ y, l[j]? = some y := ⟨_, List.getElem?_eq_getElem (by omega)⟩
    obtain ⟨s, hs⟩ : ∃ s, psum (l.take j) = s := ⟨_, rfl⟩
    have hsn : psum (l.take (j + 1)) = s + y := by rw [List.take_add_one, hy, ← hs]; exact psum_snoc _ _
    obtain ⟨s1, hs1⟩ : ∃ s1, psum (l.take (j + 1)) = s1 := ⟨_, rfl⟩
    have hw1 : IntKind.u64.wrap (s + y) = s1 := by
      have := HP.out (j + 1) (by omega)
      rw [← hsn, hs1] at *
      rw [IntKind.wrap_u64]; omega
    have hidx := fun w => run_index97 l j y w hj2 hy
    have hd : decide ((j : Int) < 7424) = true := decide_eq_true (by omega)
    have HS1 := Lib.hid hs1
    have hr2 := HR2.out
    have hr3 := HR3.out j
    rw [hs1] at hr3
    rw [hs]
    by_cases hlt : j < r
    · have hk1 : decide (k ≤ s1) = false := decide_eq_false (by have := hr3 hlt; omega)
      clear hl hy hs hsn hs1 hr2 hr3
      go_wp2
      go_round
      case rel => exact ⟨j + 1, by omega, by go_num, by rw [HS1.out]⟩
      case measure => simp [intOf]; omega
    · have hjr : r = j := by omega
      subst hjr
      have hk1 : decide (k ≤ s1) = true := decide_eq_true (by rw [hs1] at hr2; omega)
      clear hl hy hs hsn hs1 hr2 hr3
      go_wp2_with (go_at_call 42; refine (hL _).mono ?_; rintro e w' ⟨rfl, ⟨m, rfl⟩⟩)
      rw [Exit.noGoto_ret]
      go_ret2
      exact ⟨rfl, pw_below_drewN hb1 m⟩
/-- Quantile, where there is none: a part of nothing or more than all, held counts, no count. -/
theorem quant_invalid (g : Nat) (a b : Int) (w : World) (h : b = 0 ∨ b < a) :
    Calls Try.prog 41 #[.pointer (some ⟨g, 0, none⟩), .int .u64 a, .int .u64 b] w fun e w' => e = .returned (.tuple #[.int .u64 0, .int .i64 5]) ∧ w = w' := by
  by_cases hz : b = 0
  · subst hz
    clear h
    go_enter Try.func41, Try.ntmps41
    go_wp2
    go_step3
    go_wp2
    rw [Exit.noGoto_ret]
    go_ret2
    exact ⟨rfl, rfl⟩
  · have hb : (b == 0) = false := beq_eq_false_iff_ne.mpr hz
    have hab : decide (b < a) = true := decide_eq_true (by omega)
    clear h hz
    go_enter Try.func41, Try.ntmps41
    go_wp2
    go_step3
    go_wp2
    rw [Exit.noGoto_ret]
    go_ret2
    exact ⟨rfl, rfl⟩
theorem quant_held (g : Nat) (l : List Int) (a b : Int) (w : World) (hH : w.heap[g]? = some (.cells (hcells l) 99 (0, 0))) (hl : l.length = 7424) (hr : Cnt l) (hb : b ≠ 0) (hab : a ≤ b) (hs : hsum l = 18446744073709551615) :
    Calls Try.prog 41 #[.pointer (some ⟨g, 0, none⟩), .int .u64 a, .int .u64 b] w fun e w' => e = .returned (.tuple #[.int .u64 0, .int .i64 11]) ∧ w = w' := by
  have CO := count_any g l w hH hl hr
  rw [hs, if_pos rfl] at CO
  have hb' : (b == 0) = false := beq_eq_false_iff_ne.mpr hb
  have hab' : decide (b < a) = false := decide_eq_false (by omega)
  clear hH hl hr hb hab hs
  go_enter Try.func41, Try.ntmps41
  go_wp2
  go_step3
  go_wp2_with (go_at_call 65; refine CO.mono ?_; rintro e w' ⟨rfl, rfl⟩)
  rw [Exit.noGoto_ret]
  go_ret2
  exact ⟨rfl, rfl⟩
theorem quant_empty (g : Nat) (l : List Int) (a b : Int) (w : World) (hH : w.heap[g]? = some (.cells (hcells l) 99 (0, 0))) (hl : l.length = 7424) (hr : Cnt l) (hb : b ≠ 0) (hab : a ≤ b) (hs : hsum l = 0) :
    Calls Try.prog 41 #[.pointer (some ⟨g, 0, none⟩), .int .u64 a, .int .u64 b] w fun e w' => e = .returned (.tuple #[.int .u64 0, .int .i64 3]) ∧ w = w' := by
  have CO := count_any g l w hH hl hr
  rw [hs, if_neg (by decide)] at CO
  have hb' : (b == 0) = false := beq_eq_false_iff_ne.mpr hb
  have hab' : decide (b < a) = false := decide_eq_false (by omega)
  clear hH hl hr hb hab hs
  go_enter Try.func41, Try.ntmps41
  go_wp2
  go_step3
  go_wp2_with (go_at_call 65; refine CO.mono ?_; rintro e w' ⟨rfl, rfl⟩)
  rw [Exit.noGoto_ret]
  go_ret2
  exact ⟨rfl, rfl⟩
end Go.Proofs.Ytofgcacahfdjdaa
namespace Go.Proofs.Ytofgcacahfdjdaa
set_option linter.unusedVariables false
set_option linter.unusedSimpArgs false
open Go.RowKit Go.Proofs.YtofgcacahfdjdaaW.PrintWords Go.Proofs.YtofgcacahfdjdaaW.PrintLast Go.Proofs.YtofgcacahfdjdaaW.PrintMore
/-- The counts of a histogram: 7424 numbers of 64 bits. -/
def hgood (l : List Int) : Bool := l.length == 7424 && l.all (fun x => decide (0 ≤ x) && decide (x < 18446744073709551616))
theorem hgood_iff (l : List Int) : hgood l = true ↔ l.length = 7424 ∧ Cnt l := by
  simp [hgood, Cnt]
def hadd (l : List Int) (i : Nat) (n : Int) : List Int := l.set i (hold (l.getD i 0 + n))
theorem getD_get {l : List Int} {i : Nat} (h : i < l.length) : l[i]? = some (l.getD i 0) := by
  rw [List.getElem?_eq_getElem h, List.getD, List.getElem?_eq_getElem h]; rfl
/-- Where the counts come to k: the first bucket up to which there are so many. -/
def rankAt (l : List Int) (k : Int) : Nat := ((List.range 7424).find? fun r => decide (k ≤ psum (l.take (r + 1)))).getD 0
theorem rankAt_spec {l : List Int} {k : Int} (hl : l.length = 7424) (h : k ≤ psum l) : rankAt l k < 7424 ∧ k ≤ psum (l.take (rankAt l k + 1)) ∧ ∀ j, j < rankAt l k → psum (l.take (j + 1)) < k := by
  unfold rankAt
  cases hf : (List.range 7424).find? (fun r => decide (k ≤ psum (l.take (r + 1)))) with
  | none =>
    rw [List.find?_eq_none] at hf
    have := hf 7423 (by rw [List.mem_range]; omega)
    rw [show l.take (7423 + 1) = l from List.take_of_length_le (by omega)] at this
    exact absurd h (by simpa using this)
  | some r =>
    rw [List.find?_range_eq_some] at hf
    obtain ⟨h1, h2, h3⟩ := hf
    refine ⟨by simpa using h2, by simpa using h1, fun j hj => ?_⟩
    have := h3 j hj
    simpa using this
theorem psum_nonneg (l : List Int) (h : Cnt l) : 0 ≤ psum l := by
  have key : ∀ (l : List Int) (s : Int), Cnt l → 0 ≤ s → 0 ≤ l.foldl (· + ·) s := by
    intro l
    induction l with
    | nil => intro s _ hs; exact hs
    | cons x l ih => intro s hl hs; exact ih (s + x) (fun y hy => hl y (by simp [hy])) (by have := hl x (by simp); omega)
  exact key l 0 h (by omega)
theorem psum_mono (l : List Int) (h : Cnt l) (j : Nat) : psum (l.take j) ≤ psum l := by
  have e : l = l.take j ++ l.drop j := (List.take_append_drop j l).symm
  have key : ∀ (l : List Int) (s : Int), psum l + s = l.foldl (· + ·) s := by
    intro l
    induction l with
    | nil => intro s; simp [psum]
    | cons x l ih => intro s; have a := ih x; have b := ih (s + x); simp [psum] at *; omega
  have e2 : psum l = psum (l.take j) + psum (l.drop j) := by
    conv => lhs; rw [e]
    have := key (l.drop j) (psum (l.take j))
    simp only [psum, List.foldl_append] at *
    omega
  have := psum_nonneg (l.drop j) (fun x hx => h x (List.mem_of_mem_drop hx))
  omega
theorem hsum_psum (l : List Int) (h : Cnt l) : hsum l = hold (psum l) := by
  have key : ∀ (l : List Int) (s : Int), Cnt l → 0 ≤ s → l.foldl (fun s x => hold (s + x)) (hold s) = hold (l.foldl (· + ·) s) := by
    intro l
    induction l with
    | nil => intro s _ _; rfl
    | cons x l ih =>
      intro s hl hs
      have hx := hl x (by simp)
      have : hold (hold s + x) = hold (s + x) := by unfold hold; repeat' split
                                                    all_goals omega
      simp only [List.foldl_cons]
      rw [this]
      exact ih _ (fun y hy => hl y (by simp [hy])) (by omega)
  exact key l 0 h (by omega)
end Go.Proofs.Ytofgcacahfdjdaa
namespace Go.Proofs.Ytofgcacahfdjdaa.Hi
open Go.RowKit Go.Proofs.YtofgcacahfdjdaaW.PrintWords Go.Proofs.YtofgcacahfdjdaaW.PrintLast Go.Proofs.YtofgcacahfdjdaaW.PrintMore
attribute [local go_sem] max2_int min2_int max_two min_two max_three min_three max_four min_four   -- for this text's walks alone
set_option linter.unusedVariables false
set_option linter.unusedSimpArgs false
def errW : Option Int → Value
  | none => .nilIface
  | some c => .iface 0 (.int .i64 c)
theorem errW_none : errW none = .nilIface := rfl
theorem errW_some (c : Int) : errW (some c) = .iface 0 (.int .i64 c) := rfl
theorem info67 : (Try.prog.info? 67).map (fun i => (i.zero, i.size, i.bytes)) = some (some (.agg #[(.int .i64 0), (.int .u64 0)]), 2, 16) := by kernel_rfl
structure S67 where
  f0 : Int
  f1 : Int
def z67 : S67 := ⟨(0 : Int), (0 : Int)⟩
def k67 : Kd S67 := Kd.iso (Kd.pair (Kd.int .i64) (Kd.int .u64)) (fun x : S67 => (x.f0, x.f1))
theorem k67_open {w : World} {x : S67} {cs : List Value} (h : k67.K w x cs) : cs = [.int .i64 x.f0, .int .u64 x.f1] := by
  obtain ⟨_, _, rfl, rfl, rfl⟩ := h
  exact rfl
theorem k67_mkM (w : World) (base : Nat) (ok : Nat → Prop) (x : S67)  : k67.M w base ok x [.int .i64 x.f0, .int .u64 x.f1] := ⟨[.int .i64 x.f0], [.int .u64 x.f1], rfl, rfl, rfl⟩
def rd_T67 (xs : List S67) (i : Int) : S67 := xs.getD i.toNat z67
theorem at_T67 {w : World} {A : Option Addr} {n : Nat} {xs : List S67} (h : Kd.C k67 w A n xs) (i : Int) (h0 : 0 ≤ i) (h1 : i < n) : ∃ ad , A = some ad ∧ w.cell? (ad.add (i.toNat * 2)) = some (.int .i64 (rd_T67 xs i).f0) ∧ w.cell? ⟨(ad.add (i.toNat * 2)).block, (ad.add (i.toNat * 2)).off + 1, none⟩ = some (.int .u64 (rd_T67 xs i).f1) := by
  obtain ⟨ad, c, e, _, hK, hc0⟩ := Kd.C_get h z67 i h0 h1
  have hc : ∀ j u, c[j]? = some u → w.cell? (ad.add (i.toNat * 2 + j)) = some u := hc0
  obtain rfl := k67_open hK
  exact ⟨ad, e, hc 0 _ rfl, by rw [← add_field _ _ 1 (by omega)]; exact hc 1 _ rfl⟩
end Go.Proofs.Ytofgcacahfdjdaa.Hi
namespace Go.Proofs.Ytofgcacahfdjdaa.Hi
open Go.RowKit Go.Proofs.YtofgcacahfdjdaaW.PrintWords Go.Proofs.YtofgcacahfdjdaaW.PrintLast Go.Proofs.YtofgcacahfdjdaaW.PrintMore
attribute [local go_sem] max2_int min2_int max_two min_two max_three min_three max_four min_four   -- for this text's walks alone
set_option linter.unusedVariables false
set_option linter.unusedSimpArgs false
theorem eqA67 (d : Nat) (w : World) (x0 y0 : Int) (x1 y1 : Int) :
    (Op.equalIn (d + 2) 67 (.agg #[.int .i64 x0, .int .u64 x1]) (.agg #[.int .i64 y0, .int .u64 y1])).run Try.prog w = .ok (x0 == y0 && (x1 == y1)) w := by
  refine eqA_of Try.underlying67 (by kernel_rfl) ?_
  refine eqf_cons (by rfl) (by go_simp; rfl) (by go_simp; rfl) (by go_simp) ?_
  exact eqf_last (by rfl) (by go_simp; rfl) (by go_simp; rfl) (by go_simp)
end Go.Proofs.Ytofgcacahfdjdaa.Hi
namespace Go.Proofs.Ytofgcacahfdjdaa.Hi
open Go.RowKit Go.Proofs.YtofgcacahfdjdaaW.PrintWords Go.Proofs.YtofgcacahfdjdaaW.PrintLast Go.Proofs.YtofgcacahfdjdaaW.PrintMore
attribute [local go_sem] max2_int min2_int max_two min_two max_three min_three max_four min_four   -- for this text's walks alone
set_option linter.unusedVariables false
set_option linter.unusedSimpArgs false
/-- A state of type 99 at block g of W; what its slices lead to came in by w0. -/
def IsS99 (w0 W : World) (g : Nat) (f0 : (List Int)) : Prop := W.heap[g]? = some (.cells (hcells f0) 99 (0, 0)) ∧ w0.heap.size ≤ g
theorem IsS99.grown {w0 W : World} {g : Nat} {f0 : (List Int)} {W1 : World} {row : Option Nat} (h : IsS99 w0 W g f0) (hw : W.grownBy W1 row) (hne : some g ≠ row) : IsS99 w0 W1 g f0 := by
  obtain ⟨hb, hg⟩ := h
  exact ⟨blk_grown hb hw hne, hg⟩
theorem IsS99.kept {w0 W : World} {g : Nat} {f0 : (List Int)} {W1 : World} {S : Nat → Prop} (h : IsS99 w0 W g f0) (hk : Kept W W1 S) (hne : ¬ S g) : IsS99 w0 W1 g f0 := by
  obtain ⟨hb, hg⟩ := h
  exact ⟨blk_kept hb hk hne, hg⟩
theorem IsS99.below {w0 W : World} {g : Nat} {f0 : (List Int)} {W1 : World} (h : IsS99 w0 W g f0) (hw : Below W.heap.size W W1) : IsS99 w0 W1 g f0 := h.grown (grown_of_below hw none) (by simp)
theorem IsS99.alloc {w0 W : World} {g : Nat} {f0 : (List Int)} (h : IsS99 w0 W g f0) (o : Obj) : IsS99 w0 (W.alloc o) g f0 := h.below (below_alloc (Below.refl _ _) o)
theorem IsS99.drewN {w0 W : World} {g : Nat} {f0 : (List Int)} (h : IsS99 w0 W g f0) (m : Nat) : IsS99 w0 (W.drewN m) g f0 := h
theorem IsS99.drew {w0 W : World} {g : Nat} {f0 : (List Int)} (h : IsS99 w0 W g f0) : IsS99 w0 W.drew g f0 := h
theorem IsS99.at_ {w0 W : World} {g : Nat} {f0 : (List Int)} {w' : World} {m : Nat} (hq : W.drewN m = w') (h : IsS99 w0 W g f0) : IsS99 w0 w' g f0 := by subst hq; exact IsS99.drewN h m
theorem IsS99.apart {w0 W : World} {g : Nat} {f0 : (List Int)} {α : Type} {d : Kd α} {e : Nat} {base : Nat} {ok : Nat → Prop} {v : Value} {xs : List α} (h : IsS99 w0 W g f0) (ho : d.R e W base ok v xs) (ht : ∀ q, q ∈ e :: d.E → q ≠ 99) : d.R e W base (fun k => ok k ∧ k ≠ g) v xs := by
  obtain ⟨hb, hg⟩ := h
  exact Kd.R_types ho hb ht
theorem IsS99.own_ne {w0 W : World} {g : Nat} {f0 : (List Int)} {α : Type} {d : Kd α} {e : Nat} {base : Nat} {ok : Nat → Prop} {v : Value} {xs : List α} (h : IsS99 w0 W g f0) (ho : d.R e W base ok v xs) (ht : e ≠ 99) : some g ≠ v.ownBlock := by
  obtain ⟨hb, hg⟩ := h
  exact Kd.R_ne ho hb ht
theorem IsS99.lt {w0 W : World} {g : Nat} {f0 : (List Int)} (h : IsS99 w0 W g f0) : g < W.heap.size := by
  obtain ⟨hb, hg⟩ := h
  exact blk_lt hb
theorem IsS99.ge {w0 W : World} {g : Nat} {f0 : (List Int)} (h : IsS99 w0 W g f0) : w0.heap.size ≤ g := by
  obtain ⟨hb, hg⟩ := h
  exact hg
theorem IsS99.new (w0 W : World) (f0 : (List Int)) (hB : Below w0.heap.size w0 W) : IsS99 w0 (W.alloc (.cells (hcells f0) 99)) W.heap.size f0 := ⟨by simpa using heap_alloc_new W _, hB.size⟩
def hist_New.f : Option (List Int) := some (hzero 7424)
theorem hist_New.calls (r : List Int) (w0 w : World) (hB : Below w0.heap.size w0 w) (h : hist_New.f = some r) :
    Calls Try.prog 39 #[] w fun e w' => ∃ g_ : Nat, e = .returned (.pointer (some ⟨g_, 0, none⟩)) ∧ IsS99 w0 w' g_ r ∧ Below w0.heap.size w0 w' ∧ Below w.heap.size w w' := by
  obtain rfl := Option.some.inj h
  exact (new_any w).mono fun e w' ⟨he, hh, hb⟩ => ⟨w.heap.size, he, ⟨hh, hB.size⟩, hB.trans (hb.mono hB.size), hb⟩
def hist_Bucket.f (a0 : Int) : Option (Int) := if 0 ≤ a0 ∧ a0 < 18446744073709551616 then some (bucketN a0.toNat : Int) else none
theorem hist_Bucket.calls (a0 : Int) (r : Int) (w : World) (h : hist_Bucket.f a0 = some r) :
    Calls Try.prog 44 #[.int .u64 a0] w fun e w' => e = .returned (.int .i64 r) ∧ Drawn0 w w' := by
  unfold hist_Bucket.f at h
  split at h
  case isTrue hr =>
    obtain rfl := Option.some.inj h
    obtain ⟨v, rfl⟩ : ∃ n : Nat, a0 = n := ⟨a0.toNat, by omega⟩
    exact (bucket_any v w (by omega)).mono fun _ _ ⟨he, hw⟩ => ⟨he, by rw [← hw]; exact Drawn0.refl w⟩
  case isFalse => cases h
def wide_Add.f (a0 : Int) (a1 : Int) : Option (Int) := if 0 ≤ a0 ∧ a0 < 18446744073709551616 ∧ 0 ≤ a1 ∧ a1 < 18446744073709551616 then some (hold (a0 + a1)) else none
def hist_Hist_Add.f (s0_0 : List Int) (a1 : Int) (a2 : Int) : Option (List Int) := if hgood s0_0 = true ∧ (0 ≤ a1 ∧ a1 < 18446744073709551616) ∧ (0 ≤ a2 ∧ a2 < 18446744073709551616) then some (hadd s0_0 (bucketN a1.toNat) a2) else none
theorem hist_Hist_Add.calls (g : Nat) (s0_0 : List Int) (a1 : Int) (a2 : Int) (r : List Int) (w0 w : World) (hI : IsS99 w0 w g s0_0) (hB : Below w0.heap.size w0 w) (h : hist_Hist_Add.f s0_0 a1 a2 = some r) :
    Calls Try.prog 40 #[.pointer (some ⟨g, 0, none⟩), .int .u64 a1, .int .u64 a2] w fun e w' => e = .returned (.tuple #[]) ∧ IsS99 w0 w' g r ∧ Below w0.heap.size w0 w' ∧ KeepBut w w' g none := by
  obtain ⟨hb, hg⟩ := hI
  unfold hist_Hist_Add.f at h
  split at h
  case isTrue hr =>
    obtain rfl := Option.some.inj h
    obtain ⟨v, rfl⟩ : ∃ n : Nat, a1 = n := ⟨a1.toNat, by omega⟩
    have hv : v < 18446744073709551616 := by omega
    have hgd := (hgood_iff _).mp hr.1
    have hlt := bucketN_lt v hv
    have hx := getD_get (l := s0_0) (i := bucketN v) (by omega)
    have hxr := hgd.2 _ (List.mem_of_getElem? hx)
    refine (hadd_any g (bucketN v) s0_0 v a2 _ w hv hb rfl hlt hx hxr.1 hxr.2 hr.2.2.1 hr.2.2.2).mono ?_
    rintro e w' ⟨he, m, rfl⟩
    refine ⟨he, ⟨?_, hg⟩, below_set (pw_below_drewN hB m) hg, (keep_drewN (KeepBut.refl w g none) m).set_ _ _⟩
    have := blk_set (blk_drewN hb m) (bucketN v) (.int .u64 (hold (s0_0.getD (bucketN v) 0 + a2)))
    rw [hcells_set] at this
    exact this
  case isFalse => cases h
def hist_shape.f (a0 : Int) : Option (Int × Int) := if a0 < 256 then (some (IntKind.u64.wrap (a0), 0)) else (some (IntKind.u64.wrap (wrap64 (a0 - (wrap64 (128 * (wrap64 ((wrap64 (Int.tdiv a0 128)) - 1)))))), wrap64 ((wrap64 (Int.tdiv a0 128)) - 1)))
set_option maxHeartbeats 8000000 in
set_option maxRecDepth 100000 in
theorem hist_shape.calls (a0 : Int) (r1 : Int) (r2 : Int) (w : World) (h : hist_shape.f a0 = some (r1, r2)) :
    Calls Try.prog 67 #[.int .i64 a0] w fun e w' => e = .returned (.tuple #[.int .u64 r1, .int .i64 r2]) ∧ Drawn0 w w' := by
  have H : (if a0 < 256 then (some (IntKind.u64.wrap (a0), 0)) else (some (IntKind.u64.wrap (wrap64 (a0 - (wrap64 (128 * (wrap64 ((wrap64 (Int.tdiv a0 128)) - 1)))))), wrap64 ((wrap64 (Int.tdiv a0 128)) - 1)))) = some (r1, r2) := h
  clear h
  by_cases c2 : a0 < 256
  · rw [if_pos c2] at H
    have c2b0 : decide (a0 < 256) = true := decide_eq_true c2
    clear c2
    simp only [Option.some.injEq, Prod.mk.injEq] at H
    obtain ⟨rfl, rfl⟩ := H
    go_enter Try.func67, Try.ntmps67
    go_wp2
    go_ret2
    exact ⟨by first | rfl | (simp; done) | (simp [*]; done), by repeat (first | exact Drawn0.refl _ | apply Drawn0.step)⟩
  · rw [if_neg c2] at H
    have c2b0 : decide (a0 < 256) = false := decide_eq_false c2
    clear c2
    simp only [Option.some.injEq, Prod.mk.injEq] at H
    obtain ⟨rfl, rfl⟩ := H
    go_enter Try.func67, Try.ntmps67
    go_wp2
    go_ret2
    exact ⟨by first | rfl | (simp; done) | (simp [*]; done), by repeat (first | exact Drawn0.refl _ | apply Drawn0.step)⟩
def hist_Low.f (a0 : Int) : Option (Int × Bool) := if a0 < 0 then (some (0, false)) else (if a0 ≥ 7424 then (some (0, false)) else ((hist_shape.f a0).bind fun bt102 => (if 0 ≤ bt102.2 then (some (shl .u64 bt102.1 bt102.2, true)) else (none))))
set_option maxHeartbeats 8000000 in
set_option maxRecDepth 100000 in
theorem hist_Low.calls (a0 : Int) (r1 : Int) (r2 : Bool) (w : World) (h : hist_Low.f a0 = some (r1, r2)) :
    Calls Try.prog 42 #[.int .i64 a0] w fun e w' => e = .returned (.tuple #[.int .u64 r1, .bool r2]) ∧ Drawn0 w w' := by
  have H : (if a0 < 0 then (some (0, false)) else (if a0 ≥ 7424 then (some (0, false)) else ((hist_shape.f a0).bind fun bt102 => (if 0 ≤ bt102.2 then (some (shl .u64 bt102.1 bt102.2, true)) else (none))))) = some (r1, r2) := h
  clear h
  by_cases c2 : a0 < 0
  · rw [if_pos c2] at H
    have c2b0 : decide (a0 < 0) = true := decide_eq_true c2
    clear c2
    simp only [Option.some.injEq, Prod.mk.injEq] at H
    obtain ⟨rfl, rfl⟩ := H
    go_enter Try.func42, Try.ntmps42
    go_wp2
    go_ret2
    exact ⟨by first | rfl | (simp; done) | (simp [*]; done), by repeat (first | exact Drawn0.refl _ | apply Drawn0.step)⟩
  · rw [if_neg c2] at H
    have c2b0 : decide (a0 < 0) = false := decide_eq_false c2
    clear c2
    by_cases c3 : a0 ≥ 7424
    · rw [if_pos c3] at H
      have c3b0 : decide (7424 ≤ a0) = true := decide_eq_true c3
      clear c3
      simp only [Option.some.injEq, Prod.mk.injEq] at H
      obtain ⟨rfl, rfl⟩ := H
      go_enter Try.func42, Try.ntmps42
      go_wp2
      go_ret2
      exact ⟨by first | rfl | (simp; done) | (simp [*]; done), by repeat (first | exact Drawn0.refl _ | apply Drawn0.step)⟩
    · rw [if_neg c3] at H
      have c3b0 : decide (7424 ≤ a0) = false := decide_eq_false c3
      clear c3
      replace H := Option.bind_eq_some_iff.mp H
      obtain ⟨⟨t102, t103⟩, A40, H⟩ := H
      replace H : (if 0 ≤ t103 then (some (shl .u64 t102 t103, true)) else (none)) = some (r1, r2) := H
      have A4 := Aside0.mk A40
      clear A40
      by_cases c5 : 0 ≤ t103
      · rw [if_pos c5] at H
        have c5b0 := eq_true c5
        have c5b1 : decide (0 ≤ t103) = true := decide_eq_true c5
        clear c5
        obtain ⟨ji6, hji6⟩ : ∃ j_ : Int, (shl .u64 t102 t103) = j_ := ⟨_, rfl⟩
        replace H : (some (ji6, true)) = some (r1, r2) := by first | (rw [hji6] at H; exact H) | (simp only [hji6] at H ⊢; exact H)
        (try rw [hji6] at A4)
        have hji6_ : (IntKind.u64.wrap (t102 * 2 ^ min t103.toNat 64)) = ji6 := hji6
        have hji6z : t103 ≤ 64 → (IntKind.u64.wrap (t102 * 2 ^ t103.toNat)) = ji6 := shl_small hji6
        simp only [Option.some.injEq, Prod.mk.injEq] at H
        obtain ⟨rfl, rfl⟩ := H
        go_enter Try.func42, Try.ntmps42
        go_wp2_with (first | ((with_reducible refine gate_callee (f := 67) rfl ?_); refine goesL_ (some 14) rfl rfl Try.func67 (by kernel_rfl) rfl #[.int .i64 a0] rfl (by (try simp only [List.map_toArray, List.map_cons, List.map_nil]); first | done | rfl | (simp only [List.length_drop, List.length_take]; rfl)) ?_; (with_reducible refine (hist_shape.calls a0 t102 t103 _ A4.out).mono ?_); rintro e w' ⟨rfl, ⟨nd, rfl⟩⟩; refine ⟨_, rfl, ?_⟩))
        go_ret2
        exact ⟨by first | rfl | (simp; done) | (simp only [← hji6] <;> (first | rfl | simp)) | (simp [*]; done), by repeat (first | exact Drawn0.refl _ | apply Drawn0.step)⟩
      · rw [if_neg c5] at H
        exact absurd H (by simp)
def hist_Hist_Count.f (s0_0 : List Int) : Option (Int × Int × List Int) := if hgood s0_0 = true then some (hsum s0_0, (if hsum s0_0 = 18446744073709551615 then 11 else 0), s0_0) else none
def wide_Ceil.f (a0 : Int) (a1 : Int) (a2 : Int) : Option (Int × Bool) := if (0 ≤ a0 ∧ a0 < 18446744073709551616) ∧ (0 ≤ a1 ∧ a1 < 18446744073709551616) ∧ (0 ≤ a2 ∧ a2 < 18446744073709551616) then some (Pure.ceil128 (Pure.pr a0 a1 a2)) else none
theorem wide_Ceil.calls (a0 : Int) (a1 : Int) (a2 : Int) (r1 : Int) (r2 : Bool) (w : World) (h : wide_Ceil.f a0 a1 a2 = some (r1, r2)) :
    Calls Try.prog 66 #[.int .u64 a0, .int .u64 a1, .int .u64 a2] w fun e w' => e = .returned (.tuple #[.int .u64 r1, .bool r2]) ∧ Below w.heap.size w w' := by
  unfold wide_Ceil.f at h
  split at h
  case isTrue hr => exact Q.wide_Ceil.calls 1 a0 a1 a2 r1 r2 w (by rw [Pure.Ceil_eq hr.1 hr.2.1 hr.2.2 1 (by omega)]; exact h)
  case isFalse => cases h
/-- The rank that is asked for. -/
def kOf (s : List Int) (a b : Int) : Int := max 1 (Pure.ceil128 (Pure.pr a (hsum s) b)).1
def hist_Hist_Quantile.f (s0_0 : List Int) (a1 : Int) (a2 : Int) : Option (Int × Int × List Int) :=
  if hgood s0_0 = true ∧ (0 ≤ a1 ∧ a1 < 18446744073709551616) ∧ (0 ≤ a2 ∧ a2 < 18446744073709551616) then
    (if a2 = 0 ∨ a2 < a1 then some (0, 5, s0_0) else if hsum s0_0 = 18446744073709551615 then some (0, 11, s0_0) else if hsum s0_0 = 0 then some (0, 3, s0_0)
      else (hist_Low.f (rankAt s0_0 (kOf s0_0 a1 a2))).bind fun v => some (v.1, 0, s0_0))
  else none
/-- A part of n is at most n. -/
theorem ceil_part {a b n : Int} (ha : 0 ≤ a ∧ a < 18446744073709551616) (hb : 0 ≤ b ∧ b < 18446744073709551616) (hn : 0 ≤ n ∧ n < 18446744073709551615) (h0 : b ≠ 0) (hab : a ≤ b) :
    0 ≤ (Pure.ceil128 (Pure.pr a n b)).1 ∧ (Pure.ceil128 (Pure.pr a n b)).1 ≤ n ∧ (Pure.ceil128 (Pure.pr a n b)).2 = true := by
  have un : Pure.U n := ⟨hn.1, by omega⟩
  have le : a * n ≤ b * n := Int.mul_le_mul_of_nonneg_right hab hn.1
  have lt : b * n < b * 18446744073709551616 := Int.mul_lt_mul_of_pos_left (by omega) (by omega)
  obtain ⟨e, u, r0, r1, r2⟩ := Pure.pr_yes ha un hb (Int.ediv_lt_of_lt_mul (by omega) (by omega))
  have u0 := u.1
  rw [e]
  have q1 : a * n / b ≤ n := by
    refine Int.le_of_mul_le_mul_left (a := b) ?_ (by omega)
    omega
  unfold Pure.ceil128
  simp only
  rw [if_neg (by simp)]
  by_cases p : a * n % b > 0
  · have q2 : a * n / b < n := by
      refine Int.lt_of_mul_lt_mul_left (a := b) ?_ (by omega)
      omega
    rw [if_pos p, if_neg (by omega)]
    exact ⟨by show 0 ≤ a * n / b + 1; omega, by show a * n / b + 1 ≤ n; omega, rfl⟩
  · rw [if_neg p]; exact ⟨u0, q1, rfl⟩
theorem hist_Hist_Quantile.calls (g : Nat) (s0_0 : List Int) (a1 : Int) (a2 : Int) (r1 : Int) (r2 : Int) (r3 : List Int) (w0 w : World) (hI : IsS99 w0 w g s0_0) (hB : Below w0.heap.size w0 w) (h : hist_Hist_Quantile.f s0_0 a1 a2 = some (r1, r2, r3)) :
    Calls Try.prog 41 #[.pointer (some ⟨g, 0, none⟩), .int .u64 a1, .int .u64 a2] w fun e w' => e = .returned (.tuple #[.int .u64 r1, .int .i64 r2]) ∧ IsS99 w0 w' g r3 ∧ Below w0.heap.size w0 w' ∧ KeepBut w w' g none := by
  unfold hist_Hist_Quantile.f at h
  split at h
  case isFalse => cases h
  case isTrue hr =>
    have hgd := (hgood_iff _).mp hr.1
    split at h
    · simp only [Option.some.injEq, Prod.mk.injEq] at h
      obtain ⟨rfl, rfl, rfl⟩ := h
      exact (quant_invalid g a1 a2 w (by assumption)).mono fun e w' ⟨he, hw⟩ => ⟨he, by rw [← hw]; exact hI, by rw [← hw]; exact hB, by rw [← hw]; exact KeepBut.refl w g none⟩
    · rename_i hv
      split at h
      · simp only [Option.some.injEq, Prod.mk.injEq] at h
        obtain ⟨rfl, rfl, rfl⟩ := h
        exact (quant_held g s0_0 a1 a2 w hI.1 hgd.1 hgd.2 (by omega) (by omega) (by assumption)).mono fun e w' ⟨he, hw⟩ => ⟨he, by rw [← hw]; exact hI, by rw [← hw]; exact hB, by rw [← hw]; exact KeepBut.refl w g none⟩
      · rename_i hs
        split at h
        · simp only [Option.some.injEq, Prod.mk.injEq] at h
          obtain ⟨rfl, rfl, rfl⟩ := h
          exact (quant_empty g s0_0 a1 a2 w hI.1 hgd.1 hgd.2 (by omega) (by omega) (by assumption)).mono fun e w' ⟨he, hw⟩ => ⟨he, by rw [← hw]; exact hI, by rw [← hw]; exact hB, by rw [← hw]; exact KeepBut.refl w g none⟩
        · rename_i hz
          obtain ⟨⟨v, tv⟩, hlow, h⟩ := Option.bind_eq_some_iff.mp h
          simp only [Option.some.injEq, Prod.mk.injEq] at h
          obtain ⟨rfl, rfl, rfl⟩ := h
          have hsr := hsum_range _ hgd.2
          have hps := hsum_psum _ hgd.2
          have hp0 := psum_nonneg _ hgd.2
          have hpn : hsum s0_0 = psum s0_0 := by
            unfold hold at hps
            split at hps
            · exact hps
            · exact absurd hps (by omega)
          obtain ⟨c0, c1, c2⟩ := ceil_part hr.2.1 hr.2.2 (n := hsum s0_0) ⟨hsr.1, by omega⟩ (by omega) (by omega)
          obtain ⟨k1, k2, k3⟩ := rankAt_spec (l := s0_0) (k := kOf s0_0 a1 a2) hgd.1 (by unfold kOf; omega)
          have C := fun w => wide_Ceil.calls a1 (hsum s0_0) a2 (Pure.ceil128 (Pure.pr a1 (hsum s0_0) a2)).1 (Pure.ceil128 (Pure.pr a1 (hsum s0_0) a2)).2 w (by unfold wide_Ceil.f; rw [if_pos ⟨hr.2.1, ⟨hsr.1, hsr.2⟩, hr.2.2⟩])
          refine (quant_walk g s0_0 a1 a2 (hsum s0_0) _ (kOf s0_0 a1 a2) v (rankAt s0_0 (kOf s0_0 a1 a2)) _ tv w hI.1 hgd.1 hgd.2 (beq_eq_false_iff_ne.mpr (by omega)) (decide_eq_false (by omega)) rfl (beq_eq_false_iff_ne.mpr hs) (beq_eq_false_iff_ne.mpr hz) C rfl
            (fun w => hist_Low.calls _ v tv w hlow) k1 k2 k3 (fun j hj => ?_)).mono ?_
          · have a := psum_mono _ hgd.2 j
            have b := psum_nonneg _ (hgd.2.take j)
            omega
          · rintro e w' ⟨he, hb⟩
            exact ⟨he, hI.below hb, hB.trans (hb.mono hB.size), KeepBut.of_below hb g none⟩
def hist_High.f (a0 : Int) : Option (Int × Bool) := (hist_Low.f a0).bind fun bt106 => (if bt106.2 = true then ((hist_shape.f a0).bind fun bt108 => (if 0 ≤ bt108.2 then (some (IntKind.u64.wrap (bt106.1 + (IntKind.u64.wrap ((shl .u64 1 bt108.2) - 1))), true)) else (none))) else (some (0, false)))
set_option maxHeartbeats 8000000 in
set_option maxRecDepth 100000 in
theorem hist_High.calls (a0 : Int) (r1 : Int) (r2 : Bool) (w : World) (h : hist_High.f a0 = some (r1, r2)) :
    Calls Try.prog 43 #[.int .i64 a0] w fun e w' => e = .returned (.tuple #[.int .u64 r1, .bool r2]) ∧ Drawn0 w w' := by
  have H : ((hist_Low.f a0).bind fun bt106 => (if bt106.2 = true then ((hist_shape.f a0).bind fun bt108 => (if 0 ≤ bt108.2 then (some (IntKind.u64.wrap (bt106.1 + (IntKind.u64.wrap ((shl .u64 1 bt108.2) - 1))), true)) else (none))) else (some (0, false)))) = some (r1, r2) := h
  clear h
  replace H := Option.bind_eq_some_iff.mp H
  obtain ⟨⟨t106, t107⟩, A20, H⟩ := H
  replace H : (if t107 = true then ((hist_shape.f a0).bind fun bt108 => (if 0 ≤ bt108.2 then (some (IntKind.u64.wrap (t106 + (IntKind.u64.wrap ((shl .u64 1 bt108.2) - 1))), true)) else (none))) else (some (0, false))) = some (r1, r2) := H
  have A2 := Aside0.mk A20
  clear A20
  by_cases c3 : t107 = true
  · subst c3
    have H1 : ((hist_shape.f a0).bind fun bt108 => (if 0 ≤ bt108.2 then (some (IntKind.u64.wrap (t106 + (IntKind.u64.wrap ((shl .u64 1 bt108.2) - 1))), true)) else (none))) = some (r1, r2) := by rw [if_pos rfl] at H; exact H
    clear H
    have H := H1
    clear H1
    replace H := Option.bind_eq_some_iff.mp H
    obtain ⟨⟨t108, t109⟩, A40, H⟩ := H
    replace H : (if 0 ≤ t109 then (some (IntKind.u64.wrap (t106 + (IntKind.u64.wrap ((shl .u64 1 t109) - 1))), true)) else (none)) = some (r1, r2) := H
    have A4 := Aside0.mk A40
    clear A40
    by_cases c5 : 0 ≤ t109
    · rw [if_pos c5] at H
      have c5b0 := eq_true c5
      have c5b1 : decide (0 ≤ t109) = true := decide_eq_true c5
      clear c5
      obtain ⟨ji6, hji6⟩ : ∃ j_ : Int, (shl .u64 1 t109) = j_ := ⟨_, rfl⟩
      replace H : (some (IntKind.u64.wrap (t106 + (IntKind.u64.wrap ((ji6) - 1))), true)) = some (r1, r2) := by first | (rw [hji6] at H; exact H) | (simp only [hji6] at H ⊢; exact H)
      (try rw [hji6] at A2)
      (try rw [hji6] at A4)
      have hji6_ : (IntKind.u64.wrap (1 * 2 ^ min t109.toNat 64)) = ji6 := hji6
      have hji6z : t109 ≤ 64 → (IntKind.u64.wrap (1 * 2 ^ t109.toNat)) = ji6 := shl_small hji6
      have hji6u : (IntKind.u64.wrap (2 ^ min t109.toNat 64)) = ji6 := by have h_ := hji6_; rw [Int.one_mul] at h_; exact h_
      have hji6v : t109 ≤ 64 → (IntKind.u64.wrap (2 ^ t109.toNat)) = ji6 := fun hle_ => by have h_ := hji6z hle_; rw [Int.one_mul] at h_; exact h_
      simp only [Option.some.injEq, Prod.mk.injEq] at H
      obtain ⟨rfl, rfl⟩ := H
      go_enter Try.func43, Try.ntmps43
      go_wp2_with (first | ((with_reducible refine gate_callee (f := 42) rfl ?_); refine goesL_ (some 10) rfl rfl Try.func42 (by kernel_rfl) rfl #[.int .i64 a0] rfl (by (try simp only [List.map_toArray, List.map_cons, List.map_nil]); first | done | rfl | (simp only [List.length_drop, List.length_take]; rfl)) ?_; (with_reducible refine (hist_Low.calls a0 t106 true _ A2.out).mono ?_); rintro e w' ⟨rfl, ⟨nd, rfl⟩⟩; refine ⟨_, rfl, ?_⟩) | ((with_reducible refine gate_callee (f := 67) rfl ?_); refine goesL_ (some 17) rfl rfl Try.func67 (by kernel_rfl) rfl #[.int .i64 a0] rfl (by (try simp only [List.map_toArray, List.map_cons, List.map_nil]); first | done | rfl | (simp only [List.length_drop, List.length_take]; rfl)) ?_; (with_reducible refine (hist_shape.calls a0 t108 t109 _ A4.out).mono ?_); rintro e w' ⟨rfl, ⟨nd, rfl⟩⟩; refine ⟨_, rfl, ?_⟩))
      go_ret2
      exact ⟨by first | rfl | (simp; done) | (simp only [← hji6] <;> (first | rfl | simp)) | (simp [*]; done), by repeat (first | exact Drawn0.refl _ | apply Drawn0.step)⟩
    · rw [if_neg c5] at H
      exact absurd H (by simp)
  · replace c3 := Bool.eq_false_iff.mpr c3
    subst c3
    have H1 : (some (0, false)) = some (r1, r2) := by rw [if_neg (show ¬ (false = true) by decide)] at H; exact H
    clear H
    have H := H1
    clear H1
    simp only [Option.some.injEq, Prod.mk.injEq] at H
    obtain ⟨rfl, rfl⟩ := H
    go_enter Try.func43, Try.ntmps43
    go_wp2_with (first | ((with_reducible refine gate_callee (f := 42) rfl ?_); refine goesL_ (some 10) rfl rfl Try.func42 (by kernel_rfl) rfl #[.int .i64 a0] rfl (by (try simp only [List.map_toArray, List.map_cons, List.map_nil]); first | done | rfl | (simp only [List.length_drop, List.length_take]; rfl)) ?_; (with_reducible refine (hist_Low.calls a0 t106 false _ A2.out).mono ?_); rintro e w' ⟨rfl, ⟨nd, rfl⟩⟩; refine ⟨_, rfl, ?_⟩))
    go_ret2
    exact ⟨by first | rfl | (simp; done) | (simp [*]; done), by repeat (first | exact Drawn0.refl _ | apply Drawn0.step)⟩
def varvelaw07_awake.f  : Option (Bool) := (hist_New.f).bind fun t110 => ((hist_Hist_Add.f t110 5 1).bind fun t112 => ((hist_Hist_Add.f t112 300 1).bind fun t113 => ((hist_Hist_Quantile.f t113 1 2).bind fun bt114 => ((hist_Hist_Quantile.f bt114.2.2 1 1).bind fun bt117 => ((hist_Low.f 278).bind fun bt120 => ((hist_High.f 278).bind fun bt122 => ((hist_Bucket.f 300).bind fun t124 => (if t124 = 278 then (if bt120.1 = 300 then (if bt122.1 = 301 then (if bt120.2 = true then (if bt122.2 = true then (if bt114.1 = 5 then (if bt117.1 = 300 then (if bt114.2.1 = 0 then (some (bt117.2.1 == 0)) else (some false)) else (some false)) else (some false)) else (some false)) else (some false)) else (some false)) else (some false)) else (some false)))))))))
set_option maxHeartbeats 8000000 in
set_option maxRecDepth 100000 in
theorem varvelaw07_awake.calls  (r : Bool) (w : World) (h : varvelaw07_awake.f  = some r) :
    Calls Try.prog 11 #[] w fun e w' => e = .returned (.bool r) ∧ Below w.heap.size w w' := by
  have HB := Aside0.mk (Below.refl w.heap.size w)
  have H : ((hist_New.f).bind fun t110 => ((hist_Hist_Add.f t110 5 1).bind fun t112 => ((hist_Hist_Add.f t112 300 1).bind fun t113 => ((hist_Hist_Quantile.f t113 1 2).bind fun bt114 => ((hist_Hist_Quantile.f bt114.2.2 1 1).bind fun bt117 => ((hist_Low.f 278).bind fun bt120 => ((hist_High.f 278).bind fun bt122 => ((hist_Bucket.f 300).bind fun t124 => (if t124 = 278 then (if bt120.1 = 300 then (if bt122.1 = 301 then (if bt120.2 = true then (if bt122.2 = true then (if bt114.1 = 5 then (if bt117.1 = 300 then (if bt114.2.1 = 0 then (some (bt117.2.1 == 0)) else (some false)) else (some false)) else (some false)) else (some false)) else (some false)) else (some false)) else (some false)) else (some false)))))))))) = some r := h
  clear h
  replace H := Option.bind_eq_some_iff.mp H
  obtain ⟨t110, A10, H⟩ := H
  replace H : ((hist_Hist_Add.f t110 5 1).bind fun t112 => ((hist_Hist_Add.f t112 300 1).bind fun t113 => ((hist_Hist_Quantile.f t113 1 2).bind fun bt114 => ((hist_Hist_Quantile.f bt114.2.2 1 1).bind fun bt117 => ((hist_Low.f 278).bind fun bt120 => ((hist_High.f 278).bind fun bt122 => ((hist_Bucket.f 300).bind fun t124 => (if t124 = 278 then (if bt120.1 = 300 then (if bt122.1 = 301 then (if bt120.2 = true then (if bt122.2 = true then (if bt114.1 = 5 then (if bt117.1 = 300 then (if bt114.2.1 = 0 then (some (bt117.2.1 == 0)) else (some false)) else (some false)) else (some false)) else (some false)) else (some false)) else (some false)) else (some false)) else (some false))))))))) = some r := H
  have A1 := Aside0.mk A10
  clear A10
  replace H := Option.bind_eq_some_iff.mp H
  obtain ⟨t112, A20, H⟩ := H
  replace H : ((hist_Hist_Add.f t112 300 1).bind fun t113 => ((hist_Hist_Quantile.f t113 1 2).bind fun bt114 => ((hist_Hist_Quantile.f bt114.2.2 1 1).bind fun bt117 => ((hist_Low.f 278).bind fun bt120 => ((hist_High.f 278).bind fun bt122 => ((hist_Bucket.f 300).bind fun t124 => (if t124 = 278 then (if bt120.1 = 300 then (if bt122.1 = 301 then (if bt120.2 = true then (if bt122.2 = true then (if bt114.1 = 5 then (if bt117.1 = 300 then (if bt114.2.1 = 0 then (some (bt117.2.1 == 0)) else (some false)) else (some false)) else (some false)) else (some false)) else (some false)) else (some false)) else (some false)) else (some false)))))))) = some r := H
  have A2 := Aside0.mk A20
  clear A20
  replace H := Option.bind_eq_some_iff.mp H
  obtain ⟨t113, A30, H⟩ := H
  replace H : ((hist_Hist_Quantile.f t113 1 2).bind fun bt114 => ((hist_Hist_Quantile.f bt114.2.2 1 1).bind fun bt117 => ((hist_Low.f 278).bind fun bt120 => ((hist_High.f 278).bind fun bt122 => ((hist_Bucket.f 300).bind fun t124 => (if t124 = 278 then (if bt120.1 = 300 then (if bt122.1 = 301 then (if bt120.2 = true then (if bt122.2 = true then (if bt114.1 = 5 then (if bt117.1 = 300 then (if bt114.2.1 = 0 then (some (bt117.2.1 == 0)) else (some false)) else (some false)) else (some false)) else (some false)) else (some false)) else (some false)) else (some false)) else (some false))))))) = some r := H
  have A3 := Aside0.mk A30
  clear A30
  replace H := Option.bind_eq_some_iff.mp H
  obtain ⟨⟨t114, t115, t116⟩, A40, H⟩ := H
  replace H : ((hist_Hist_Quantile.f t116 1 1).bind fun bt117 => ((hist_Low.f 278).bind fun bt120 => ((hist_High.f 278).bind fun bt122 => ((hist_Bucket.f 300).bind fun t124 => (if t124 = 278 then (if bt120.1 = 300 then (if bt122.1 = 301 then (if bt120.2 = true then (if bt122.2 = true then (if t114 = 5 then (if bt117.1 = 300 then (if t115 = 0 then (some (bt117.2.1 == 0)) else (some false)) else (some false)) else (some false)) else (some false)) else (some false)) else (some false)) else (some false)) else (some false)))))) = some r := H
  have A4 := Aside0.mk A40
  clear A40
  replace H := Option.bind_eq_some_iff.mp H
  obtain ⟨⟨t117, t118, t119⟩, A50, H⟩ := H
  replace H : ((hist_Low.f 278).bind fun bt120 => ((hist_High.f 278).bind fun bt122 => ((hist_Bucket.f 300).bind fun t124 => (if t124 = 278 then (if bt120.1 = 300 then (if bt122.1 = 301 then (if bt120.2 = true then (if bt122.2 = true then (if t114 = 5 then (if t117 = 300 then (if t115 = 0 then (some (t118 == 0)) else (some false)) else (some false)) else (some false)) else (some false)) else (some false)) else (some false)) else (some false)) else (some false))))) = some r := H
  have A5 := Aside0.mk A50
  clear A50
  replace H := Option.bind_eq_some_iff.mp H
  obtain ⟨⟨t120, t121⟩, A60, H⟩ := H
  replace H : ((hist_High.f 278).bind fun bt122 => ((hist_Bucket.f 300).bind fun t124 => (if t124 = 278 then (if t120 = 300 then (if bt122.1 = 301 then (if t121 = true then (if bt122.2 = true then (if t114 = 5 then (if t117 = 300 then (if t115 = 0 then (some (t118 == 0)) else (some false)) else (some false)) else (some false)) else (some false)) else (some false)) else (some false)) else (some false)) else (some false)))) = some r := H
  have A6 := Aside0.mk A60
  clear A60
  replace H := Option.bind_eq_some_iff.mp H
  obtain ⟨⟨t122, t123⟩, A70, H⟩ := H
  replace H : ((hist_Bucket.f 300).bind fun t124 => (if t124 = 278 then (if t120 = 300 then (if t122 = 301 then (if t121 = true then (if t123 = true then (if t114 = 5 then (if t117 = 300 then (if t115 = 0 then (some (t118 == 0)) else (some false)) else (some false)) else (some false)) else (some false)) else (some false)) else (some false)) else (some false)) else (some false))) = some r := H
  have A7 := Aside0.mk A70
  clear A70
  replace H := Option.bind_eq_some_iff.mp H
  obtain ⟨t124, A80, H⟩ := H
  replace H : (if t124 = 278 then (if t120 = 300 then (if t122 = 301 then (if t121 = true then (if t123 = true then (if t114 = 5 then (if t117 = 300 then (if t115 = 0 then (some (t118 == 0)) else (some false)) else (some false)) else (some false)) else (some false)) else (some false)) else (some false)) else (some false)) else (some false)) = some r := H
  have A8 := Aside0.mk A80
  clear A80
  by_cases c9 : t124 = 278
  · rw [if_pos c9] at H
    have c9b0 : (t124 == 278) = true := beq_iff_eq.mpr c9
    have c9b1 : (t124 != 278) = false := bne_eq_false_iff_eq.mpr c9
    clear c9
    by_cases c10 : t120 = 300
    · rw [if_pos c10] at H
      have c10b0 : (t120 == 300) = true := beq_iff_eq.mpr c10
      have c10b1 : (t120 != 300) = false := bne_eq_false_iff_eq.mpr c10
      clear c10
      by_cases c11 : t122 = 301
      · rw [if_pos c11] at H
        have c11b0 : (t122 == 301) = true := beq_iff_eq.mpr c11
        have c11b1 : (t122 != 301) = false := bne_eq_false_iff_eq.mpr c11
        clear c11
        by_cases c12 : t121 = true
        · subst c12
          have H1 : (if t123 = true then (if t114 = 5 then (if t117 = 300 then (if t115 = 0 then (some (t118 == 0)) else (some false)) else (some false)) else (some false)) else (some false)) = some r := by rw [if_pos rfl] at H; exact H
          clear H
          have H := H1
          clear H1
          by_cases c13 : t123 = true
          · subst c13
            have H1 : (if t114 = 5 then (if t117 = 300 then (if t115 = 0 then (some (t118 == 0)) else (some false)) else (some false)) else (some false)) = some r := by rw [if_pos rfl] at H; exact H
            clear H
            have H := H1
            clear H1
            by_cases c14 : t114 = 5
            · rw [if_pos c14] at H
              have c14b0 : (t114 == 5) = true := beq_iff_eq.mpr c14
              have c14b1 : (t114 != 5) = false := bne_eq_false_iff_eq.mpr c14
              clear c14
              by_cases c15 : t117 = 300
              · rw [if_pos c15] at H
                have c15b0 : (t117 == 300) = true := beq_iff_eq.mpr c15
                have c15b1 : (t117 != 300) = false := bne_eq_false_iff_eq.mpr c15
                clear c15
                by_cases c16 : t115 = 0
                · rw [if_pos c16] at H
                  have c16b0 : (t115 == 0) = true := beq_iff_eq.mpr c16
                  have c16b1 : (t115 != 0) = false := bne_eq_false_iff_eq.mpr c16
                  clear c16
                  obtain rfl := Option.some.inj H
                  go_enter Try.func11, Try.ntmps11
                  go_wp2_with (first | ((with_reducible refine gate_callee (f := 39) rfl ?_); refine goesL_ (some 10) rfl rfl Try.func39 (by kernel_rfl) rfl #[] rfl (by (try simp only [List.map_toArray, List.map_cons, List.map_nil]); first | done | rfl | (simp only [List.length_drop, List.length_take]; rfl)) ?_; (with_reducible refine (hist_New.calls  t110 w _ ?side1 A1.out).mono ?_); (case side1 => repeat (first | (with_reducible first | exact HB.out | apply below_alloc | apply pw_below_drewN | apply below_drew1) | exact HB.out)); rintro e w17 ⟨g111, rfl, hi, hb, hb2⟩; refine ⟨_, rfl, ?_⟩; have n0_ := Aside0.mk (hb); have n1_ := Aside0.mk (hi); clear HB; have HB := n0_; have HI111 := n1_; clear n0_ n1_; (try clear hb); (try clear hb2); (try clear hk); (try clear hi)) | ((with_reducible refine gate_callee (f := 40) rfl ?_); refine goesL_ (some 14) rfl rfl Try.func40 (by kernel_rfl) rfl #[.pointer (some ⟨g111, 0, none⟩), .int .u64 5, .int .u64 1] rfl (by (try simp only [List.map_toArray, List.map_cons, List.map_nil]); first | done | rfl | (simp only [List.length_drop, List.length_take]; rfl)) ?_; (with_reducible refine (hist_Hist_Add.calls g111 t110 5 1 t112 w _ ?side1 ?side2 A2.out).mono ?_); (case side1 => repeat (first | (with_reducible first | exact HI111.out | apply IsS99.alloc | apply IsS99.drewN | apply IsS99.drew) | exact HI111.out)); (case side2 => repeat (first | (with_reducible first | exact HB.out | apply below_alloc | apply pw_below_drewN | apply below_drew1 | refine below_set ?_ (IsS99.ge HI111.out)) | exact HB.out)); rintro e w18 ⟨rfl, hi, hb, hk⟩; refine ⟨_, rfl, ?_⟩; have n0_ := Aside0.mk (hb); have n1_ := Aside0.mk (hi); clear HB; clear HI111; have HB := n0_; have HI111 := n1_; clear n0_ n1_; (try clear hb); (try clear hb2); (try clear hk); (try clear hi)) | ((with_reducible refine gate_callee (f := 40) rfl ?_); refine goesL_ (some 16) rfl rfl Try.func40 (by kernel_rfl) rfl #[.pointer (some ⟨g111, 0, none⟩), .int .u64 300, .int .u64 1] rfl (by (try simp only [List.map_toArray, List.map_cons, List.map_nil]); first | done | rfl | (simp only [List.length_drop, List.length_take]; rfl)) ?_; (with_reducible refine (hist_Hist_Add.calls g111 t112 300 1 t113 w _ ?side1 ?side2 A3.out).mono ?_); (case side1 => repeat (first | (with_reducible first | exact HI111.out | apply IsS99.alloc | apply IsS99.drewN | apply IsS99.drew) | exact HI111.out)); (case side2 => repeat (first | (with_reducible first | exact HB.out | apply below_alloc | apply pw_below_drewN | apply below_drew1 | refine below_set ?_ (IsS99.ge HI111.out)) | exact HB.out)); rintro e w19 ⟨rfl, hi, hb, hk⟩; refine ⟨_, rfl, ?_⟩; have n0_ := Aside0.mk (hb); have n1_ := Aside0.mk (hi); clear HB; clear HI111; have HB := n0_; have HI111 := n1_; clear n0_ n1_; (try clear hb); (try clear hb2); (try clear hk); (try clear hi)) | ((with_reducible refine gate_callee (f := 41) rfl ?_); refine goesL_ (some 19) rfl rfl Try.func41 (by kernel_rfl) rfl #[.pointer (some ⟨g111, 0, none⟩), .int .u64 1, .int .u64 2] rfl (by (try simp only [List.map_toArray, List.map_cons, List.map_nil]); first | done | rfl | (simp only [List.length_drop, List.length_take]; rfl)) ?_; (with_reducible refine (hist_Hist_Quantile.calls g111 t113 1 2 t114 t115 t116 w _ ?side1 ?side2 A4.out).mono ?_); (case side1 => repeat (first | (with_reducible first | exact HI111.out | apply IsS99.alloc | apply IsS99.drewN | apply IsS99.drew) | exact HI111.out)); (case side2 => repeat (first | (with_reducible first | exact HB.out | apply below_alloc | apply pw_below_drewN | apply below_drew1 | refine below_set ?_ (IsS99.ge HI111.out)) | exact HB.out)); rintro e w20 ⟨rfl, hi, hb, hk⟩; refine ⟨_, rfl, ?_⟩; have n0_ := Aside0.mk (hb); have n1_ := Aside0.mk (hi); clear HB; clear HI111; have HB := n0_; have HI111 := n1_; clear n0_ n1_; (try clear hb); (try clear hb2); (try clear hk); (try clear hi)) | ((with_reducible refine gate_callee (f := 41) rfl ?_); refine goesL_ (some 24) rfl rfl Try.func41 (by kernel_rfl) rfl #[.pointer (some ⟨g111, 0, none⟩), .int .u64 1, .int .u64 1] rfl (by (try simp only [List.map_toArray, List.map_cons, List.map_nil]); first | done | rfl | (simp only [List.length_drop, List.length_take]; rfl)) ?_; (with_reducible refine (hist_Hist_Quantile.calls g111 t116 1 1 t117 t118 t119 w _ ?side1 ?side2 A5.out).mono ?_); (case side1 => repeat (first | (with_reducible first | exact HI111.out | apply IsS99.alloc | apply IsS99.drewN | apply IsS99.drew) | exact HI111.out)); (case side2 => repeat (first | (with_reducible first | exact HB.out | apply below_alloc | apply pw_below_drewN | apply below_drew1 | refine below_set ?_ (IsS99.ge HI111.out)) | exact HB.out)); rintro e w21 ⟨rfl, hi, hb, hk⟩; refine ⟨_, rfl, ?_⟩; have n0_ := Aside0.mk (hb); have n1_ := Aside0.mk (hi); clear HB; clear HI111; have HB := n0_; have HI111 := n1_; clear n0_ n1_; (try clear hb); (try clear hb2); (try clear hk); (try clear hi)) | ((with_reducible refine gate_callee (f := 42) rfl ?_); refine goesL_ (some 28) rfl rfl Try.func42 (by kernel_rfl) rfl #[.int .i64 278] rfl (by (try simp only [List.map_toArray, List.map_cons, List.map_nil]); first | done | rfl | (simp only [List.length_drop, List.length_take]; rfl)) ?_; (with_reducible refine (hist_Low.calls 278 t120 true _ A6.out).mono ?_); rintro e w' ⟨rfl, ⟨nd, rfl⟩⟩; refine ⟨_, rfl, ?_⟩) | ((with_reducible refine gate_callee (f := 43) rfl ?_); refine goesL_ (some 32) rfl rfl Try.func43 (by kernel_rfl) rfl #[.int .i64 278] rfl (by (try simp only [List.map_toArray, List.map_cons, List.map_nil]); first | done | rfl | (simp only [List.length_drop, List.length_take]; rfl)) ?_; (with_reducible refine (hist_High.calls 278 t122 true _ A7.out).mono ?_); rintro e w' ⟨rfl, ⟨nd, rfl⟩⟩; refine ⟨_, rfl, ?_⟩) | ((with_reducible refine gate_callee (f := 44) rfl ?_); refine goesL_ (some 35) rfl rfl Try.func44 (by kernel_rfl) rfl #[.int .u64 300] rfl (by (try simp only [List.map_toArray, List.map_cons, List.map_nil]); first | done | rfl | (simp only [List.length_drop, List.length_take]; rfl)) ?_; (with_reducible refine (hist_Bucket.calls 300 t124 _ A8.out).mono ?_); rintro e w' ⟨rfl, ⟨nd, rfl⟩⟩; refine ⟨_, rfl, ?_⟩))
                  go_ret
                  exact ⟨by first | rfl | (simp [errW_none, errW_some] <;> rfl) | (simp [*, errW_none, errW_some] <;> rfl), by repeat (first | (with_reducible first | exact HB.out | apply below_alloc | apply pw_below_drewN | apply below_drew1 | refine below_set ?_ (IsS99.ge HI111.out)) | exact HB.out)⟩
                · rw [if_neg c16] at H
                  have c16b0 : (t115 == 0) = false := beq_eq_false_iff_ne.mpr c16
                  have c16b1 : (t115 != 0) = true := bne_iff_ne.mpr c16
                  obtain rfl := Option.some.inj H
                  go_enter Try.func11, Try.ntmps11
                  go_wp2_with (first | ((with_reducible refine gate_callee (f := 39) rfl ?_); refine goesL_ (some 10) rfl rfl Try.func39 (by kernel_rfl) rfl #[] rfl (by (try simp only [List.map_toArray, List.map_cons, List.map_nil]); first | done | rfl | (simp only [List.length_drop, List.length_take]; rfl)) ?_; (with_reducible refine (hist_New.calls  t110 w _ ?side1 A1.out).mono ?_); (case side1 => repeat (first | (with_reducible first | exact HB.out | apply below_alloc | apply pw_below_drewN | apply below_drew1) | exact HB.out)); rintro e w22 ⟨g111, rfl, hi, hb, hb2⟩; refine ⟨_, rfl, ?_⟩; have n0_ := Aside0.mk (hb); have n1_ := Aside0.mk (hi); clear HB; have HB := n0_; have HI111 := n1_; clear n0_ n1_; (try clear hb); (try clear hb2); (try clear hk); (try clear hi)) | ((with_reducible refine gate_callee (f := 40) rfl ?_); refine goesL_ (some 14) rfl rfl Try.func40 (by kernel_rfl) rfl #[.pointer (some ⟨g111, 0, none⟩), .int .u64 5, .int .u64 1] rfl (by (try simp only [List.map_toArray, List.map_cons, List.map_nil]); first | done | rfl | (simp only [List.length_drop, List.length_take]; rfl)) ?_; (with_reducible refine (hist_Hist_Add.calls g111 t110 5 1 t112 w _ ?side1 ?side2 A2.out).mono ?_); (case side1 => repeat (first | (with_reducible first | exact HI111.out | apply IsS99.alloc | apply IsS99.drewN | apply IsS99.drew) | exact HI111.out)); (case side2 => repeat (first | (with_reducible first | exact HB.out | apply below_alloc | apply pw_below_drewN | apply below_drew1 | refine below_set ?_ (IsS99.ge HI111.out)) | exact HB.out)); rintro e w23 ⟨rfl, hi, hb, hk⟩; refine ⟨_, rfl, ?_⟩; have n0_ := Aside0.mk (hb); have n1_ := Aside0.mk (hi); clear HB; clear HI111; have HB := n0_; have HI111 := n1_; clear n0_ n1_; (try clear hb); (try clear hb2); (try clear hk); (try clear hi)) | ((with_reducible refine gate_callee (f := 40) rfl ?_); refine goesL_ (some 16) rfl rfl Try.func40 (by kernel_rfl) rfl #[.pointer (some ⟨g111, 0, none⟩), .int .u64 300, .int .u64 1] rfl (by (try simp only [List.map_toArray, List.map_cons, List.map_nil]); first | done | rfl | (simp only [List.length_drop, List.length_take]; rfl)) ?_; (with_reducible refine (hist_Hist_Add.calls g111 t112 300 1 t113 w _ ?side1 ?side2 A3.out).mono ?_); (case side1 => repeat (first | (with_reducible first | exact HI111.out | apply IsS99.alloc | apply IsS99.drewN | apply IsS99.drew) | exact HI111.out)); (case side2 => repeat (first | (with_reducible first | exact HB.out | apply below_alloc | apply pw_below_drewN | apply below_drew1 | refine below_set ?_ (IsS99.ge HI111.out)) | exact HB.out)); rintro e w24 ⟨rfl, hi, hb, hk⟩; refine ⟨_, rfl, ?_⟩; have n0_ := Aside0.mk (hb); have n1_ := Aside0.mk (hi); clear HB; clear HI111; have HB := n0_; have HI111 := n1_; clear n0_ n1_; (try clear hb); (try clear hb2); (try clear hk); (try clear hi)) | ((with_reducible refine gate_callee (f := 41) rfl ?_); refine goesL_ (some 19) rfl rfl Try.func41 (by kernel_rfl) rfl #[.pointer (some ⟨g111, 0, none⟩), .int .u64 1, .int .u64 2] rfl (by (try simp only [List.map_toArray, List.map_cons, List.map_nil]); first | done | rfl | (simp only [List.length_drop, List.length_take]; rfl)) ?_; (with_reducible refine (hist_Hist_Quantile.calls g111 t113 1 2 t114 t115 t116 w _ ?side1 ?side2 A4.out).mono ?_); (case side1 => repeat (first | (with_reducible first | exact HI111.out | apply IsS99.alloc | apply IsS99.drewN | apply IsS99.drew) | exact HI111.out)); (case side2 => repeat (first | (with_reducible first | exact HB.out | apply below_alloc | apply pw_below_drewN | apply below_drew1 | refine below_set ?_ (IsS99.ge HI111.out)) | exact HB.out)); rintro e w25 ⟨rfl, hi, hb, hk⟩; refine ⟨_, rfl, ?_⟩; have n0_ := Aside0.mk (hb); have n1_ := Aside0.mk (hi); clear HB; clear HI111; have HB := n0_; have HI111 := n1_; clear n0_ n1_; (try clear hb); (try clear hb2); (try clear hk); (try clear hi)) | ((with_reducible refine gate_callee (f := 41) rfl ?_); refine goesL_ (some 24) rfl rfl Try.func41 (by kernel_rfl) rfl #[.pointer (some ⟨g111, 0, none⟩), .int .u64 1, .int .u64 1] rfl (by (try simp only [List.map_toArray, List.map_cons, List.map_nil]); first | done | rfl | (simp only [List.length_drop, List.length_take]; rfl)) ?_; (with_reducible refine (hist_Hist_Quantile.calls g111 t116 1 1 t117 t118 t119 w _ ?side1 ?side2 A5.out).mono ?_); (case side1 => repeat (first | (with_reducible first | exact HI111.out | apply IsS99.alloc | apply IsS99.drewN | apply IsS99.drew) | exact HI111.out)); (case side2 => repeat (first | (with_reducible first | exact HB.out | apply below_alloc | apply pw_below_drewN | apply below_drew1 | refine below_set ?_ (IsS99.ge HI111.out)) | exact HB.out)); rintro e w26 ⟨rfl, hi, hb, hk⟩; refine ⟨_, rfl, ?_⟩; have n0_ := Aside0.mk (hb); have n1_ := Aside0.mk (hi); clear HB; clear HI111; have HB := n0_; have HI111 := n1_; clear n0_ n1_; (try clear hb); (try clear hb2); (try clear hk); (try clear hi)) | ((with_reducible refine gate_callee (f := 42) rfl ?_); refine goesL_ (some 28) rfl rfl Try.func42 (by kernel_rfl) rfl #[.int .i64 278] rfl (by (try simp only [List.map_toArray, List.map_cons, List.map_nil]); first | done | rfl | (simp only [List.length_drop, List.length_take]; rfl)) ?_; (with_reducible refine (hist_Low.calls 278 t120 true _ A6.out).mono ?_); rintro e w' ⟨rfl, ⟨nd, rfl⟩⟩; refine ⟨_, rfl, ?_⟩) | ((with_reducible refine gate_callee (f := 43) rfl ?_); refine goesL_ (some 32) rfl rfl Try.func43 (by kernel_rfl) rfl #[.int .i64 278] rfl (by (try simp only [List.map_toArray, List.map_cons, List.map_nil]); first | done | rfl | (simp only [List.length_drop, List.length_take]; rfl)) ?_; (with_reducible refine (hist_High.calls 278 t122 true _ A7.out).mono ?_); rintro e w' ⟨rfl, ⟨nd, rfl⟩⟩; refine ⟨_, rfl, ?_⟩) | ((with_reducible refine gate_callee (f := 44) rfl ?_); refine goesL_ (some 35) rfl rfl Try.func44 (by kernel_rfl) rfl #[.int .u64 300] rfl (by (try simp only [List.map_toArray, List.map_cons, List.map_nil]); first | done | rfl | (simp only [List.length_drop, List.length_take]; rfl)) ?_; (with_reducible refine (hist_Bucket.calls 300 t124 _ A8.out).mono ?_); rintro e w' ⟨rfl, ⟨nd, rfl⟩⟩; refine ⟨_, rfl, ?_⟩))
                  go_ret
                  exact ⟨by first | rfl | (simp [errW_none, errW_some] <;> rfl) | (simp [*, errW_none, errW_some] <;> rfl), by repeat (first | (with_reducible first | exact HB.out | apply below_alloc | apply pw_below_drewN | apply below_drew1 | refine below_set ?_ (IsS99.ge HI111.out)) | exact HB.out)⟩
              · rw [if_neg c15] at H
                have c15b0 : (t117 == 300) = false := beq_eq_false_iff_ne.mpr c15
                have c15b1 : (t117 != 300) = true := bne_iff_ne.mpr c15
                obtain rfl := Option.some.inj H
                go_enter Try.func11, Try.ntmps11
                go_wp2_with (first | ((with_reducible refine gate_callee (f := 39) rfl ?_); refine goesL_ (some 10) rfl rfl Try.func39 (by kernel_rfl) rfl #[] rfl (by (try simp only [List.map_toArray, List.map_cons, List.map_nil]); first | done | rfl | (simp only [List.length_drop, List.length_take]; rfl)) ?_; (with_reducible refine (hist_New.calls  t110 w _ ?side1 A1.out).mono ?_); (case side1 => repeat (first | (with_reducible first | exact HB.out | apply below_alloc | apply pw_below_drewN | apply below_drew1) | exact HB.out)); rintro e w27 ⟨g111, rfl, hi, hb, hb2⟩; refine ⟨_, rfl, ?_⟩; have n0_ := Aside0.mk (hb); have n1_ := Aside0.mk (hi); clear HB; have HB := n0_; have HI111 := n1_; clear n0_ n1_; (try clear hb); (try clear hb2); (try clear hk); (try clear hi)) | ((with_reducible refine gate_callee (f := 40) rfl ?_); refine goesL_ (some 14) rfl rfl Try.func40 (by kernel_rfl) rfl #[.pointer (some ⟨g111, 0, none⟩), .int .u64 5, .int .u64 1] rfl (by (try simp only [List.map_toArray, List.map_cons, List.map_nil]); first | done | rfl | (simp only [List.length_drop, List.length_take]; rfl)) ?_; (with_reducible refine (hist_Hist_Add.calls g111 t110 5 1 t112 w _ ?side1 ?side2 A2.out).mono ?_); (case side1 => repeat (first | (with_reducible first | exact HI111.out | apply IsS99.alloc | apply IsS99.drewN | apply IsS99.drew) | exact HI111.out)); (case side2 => repeat (first | (with_reducible first | exact HB.out | apply below_alloc | apply pw_below_drewN | apply below_drew1 | refine below_set ?_ (IsS99.ge HI111.out)) | exact HB.out)); rintro e w28 ⟨rfl, hi, hb, hk⟩; refine ⟨_, rfl, ?_⟩; have n0_ := Aside0.mk (hb); have n1_ := Aside0.mk (hi); clear HB; clear HI111; have HB := n0_; have HI111 := n1_; clear n0_ n1_; (try clear hb); (try clear hb2); (try clear hk); (try clear hi)) | ((with_reducible refine gate_callee (f := 40) rfl ?_); refine goesL_ (some 16) rfl rfl Try.func40 (by kernel_rfl) rfl #[.pointer (some ⟨g111, 0, none⟩), .int .u64 300, .int .u64 1] rfl (by (try simp only [List.map_toArray, List.map_cons, List.map_nil]); first | done | rfl | (simp only [List.length_drop, List.length_take]; rfl)) ?_; (with_reducible refine (hist_Hist_Add.calls g111 t112 300 1 t113 w _ ?side1 ?side2 A3.out).mono ?_); (case side1 => repeat (first | (with_reducible first | exact HI111.out | apply IsS99.alloc | apply IsS99.drewN | apply IsS99.drew) | exact HI111.out)); (case side2 => repeat (first | (with_reducible first | exact HB.out | apply below_alloc | apply pw_below_drewN | apply below_drew1 | refine below_set ?_ (IsS99.ge HI111.out)) | exact HB.out)); rintro e w29 ⟨rfl, hi, hb, hk⟩; refine ⟨_, rfl, ?_⟩; have n0_ := Aside0.mk (hb); have n1_ := Aside0.mk (hi); clear HB; clear HI111; have HB := n0_; have HI111 := n1_; clear n0_ n1_; (try clear hb); (try clear hb2); (try clear hk); (try clear hi)) | ((with_reducible refine gate_callee (f := 41) rfl ?_); refine goesL_ (some 19) rfl rfl Try.func41 (by kernel_rfl) rfl #[.pointer (some ⟨g111, 0, none⟩), .int .u64 1, .int .u64 2] rfl (by (try simp only [List.map_toArray, List.map_cons, List.map_nil]); first | done | rfl | (simp only [List.length_drop, List.length_take]; rfl)) ?_; (with_reducible refine (hist_Hist_Quantile.calls g111 t113 1 2 t114 t115 t116 w _ ?side1 ?side2 A4.out).mono ?_); (case side1 => repeat (first | (with_reducible first | exact HI111.out | apply IsS99.alloc | apply IsS99.drewN | apply IsS99.drew) | exact HI111.out)); (case side2 => repeat (first | (with_reducible first | exact HB.out | apply below_alloc | apply pw_below_drewN | apply below_drew1 | refine below_set ?_ (IsS99.ge HI111.out)) | exact HB.out)); rintro e w30 ⟨rfl, hi, hb, hk⟩; refine ⟨_, rfl, ?_⟩; have n0_ := Aside0.mk (hb); have n1_ := Aside0.mk (hi); clear HB; clear HI111; have HB := n0_; have HI111 := n1_; clear n0_ n1_; (try clear hb); (try clear hb2); (try clear hk); (try clear hi)) | ((with_reducible refine gate_callee (f := 41) rfl ?_); refine goesL_ (some 24) rfl rfl Try.func41 (by kernel_rfl) rfl #[.pointer (some ⟨g111, 0, none⟩), .int .u64 1, .int .u64 1] rfl (by (try simp only [List.map_toArray, List.map_cons, List.map_nil]); first | done | rfl | (simp only [List.length_drop, List.length_take]; rfl)) ?_; (with_reducible refine (hist_Hist_Quantile.calls g111 t116 1 1 t117 t118 t119 w _ ?side1 ?side2 A5.out).mono ?_); (case side1 => repeat (first | (with_reducible first | exact HI111.out | apply IsS99.alloc | apply IsS99.drewN | apply IsS99.drew) | exact HI111.out)); (case side2 => repeat (first | (with_reducible first | exact HB.out | apply below_alloc | apply pw_below_drewN | apply below_drew1 | refine below_set ?_ (IsS99.ge HI111.out)) | exact HB.out)); rintro e w31 ⟨rfl, hi, hb, hk⟩; refine ⟨_, rfl, ?_⟩; have n0_ := Aside0.mk (hb); have n1_ := Aside0.mk (hi); clear HB; clear HI111; have HB := n0_; have HI111 := n1_; clear n0_ n1_; (try clear hb); (try clear hb2); (try clear hk); (try clear hi)) | ((with_reducible refine gate_callee (f := 42) rfl ?_); refine goesL_ (some 28) rfl rfl Try.func42 (by kernel_rfl) rfl #[.int .i64 278] rfl (by (try simp only [List.map_toArray, List.map_cons, List.map_nil]); first | done | rfl | (simp only [List.length_drop, List.length_take]; rfl)) ?_; (with_reducible refine (hist_Low.calls 278 t120 true _ A6.out).mono ?_); rintro e w' ⟨rfl, ⟨nd, rfl⟩⟩; refine ⟨_, rfl, ?_⟩) | ((with_reducible refine gate_callee (f := 43) rfl ?_); refine goesL_ (some 32) rfl rfl Try.func43 (by kernel_rfl) rfl #[.int .i64 278] rfl (by (try simp only [List.map_toArray, List.map_cons, List.map_nil]); first | done | rfl | (simp only [List.length_drop, List.length_take]; rfl)) ?_; (with_reducible refine (hist_High.calls 278 t122 true _ A7.out).mono ?_); rintro e w' ⟨rfl, ⟨nd, rfl⟩⟩; refine ⟨_, rfl, ?_⟩) | ((with_reducible refine gate_callee (f := 44) rfl ?_); refine goesL_ (some 35) rfl rfl Try.func44 (by kernel_rfl) rfl #[.int .u64 300] rfl (by (try simp only [List.map_toArray, List.map_cons, List.map_nil]); first | done | rfl | (simp only [List.length_drop, List.length_take]; rfl)) ?_; (with_reducible refine (hist_Bucket.calls 300 t124 _ A8.out).mono ?_); rintro e w' ⟨rfl, ⟨nd, rfl⟩⟩; refine ⟨_, rfl, ?_⟩))
                go_ret
                exact ⟨by first | rfl | (simp [errW_none, errW_some] <;> rfl) | (simp [*, errW_none, errW_some] <;> rfl), by repeat (first | (with_reducible first | exact HB.out | apply below_alloc | apply pw_below_drewN | apply below_drew1 | refine below_set ?_ (IsS99.ge HI111.out)) | exact HB.out)⟩
            · rw [if_neg c14] at H
              have c14b0 : (t114 == 5) = false := beq_eq_false_iff_ne.mpr c14
              have c14b1 : (t114 != 5) = true := bne_iff_ne.mpr c14
              obtain rfl := Option.some.inj H
              go_enter Try.func11, Try.ntmps11
              go_wp2_with (first | ((with_reducible refine gate_callee (f := 39) rfl ?_); refine goesL_ (some 10) rfl rfl Try.func39 (by kernel_rfl) rfl #[] rfl (by (try simp only [List.map_toArray, List.map_cons, List.map_nil]); first | done | rfl | (simp only [List.length_drop, List.length_take]; rfl)) ?_; (with_reducible refine (hist_New.calls  t110 w _ ?side1 A1.out).mono ?_); (case side1 => repeat (first | (with_reducible first | exact HB.out | apply below_alloc | apply pw_below_drewN | apply below_drew1) | exact HB.out)); rintro e w32 ⟨g111, rfl, hi, hb, hb2⟩; refine ⟨_, rfl, ?_⟩; have n0_ := Aside0.mk (hb); have n1_ := Aside0.mk (hi); clear HB; have HB := n0_; have HI111 := n1_; clear n0_ n1_; (try clear hb); (try clear hb2); (try clear hk); (try clear hi)) | ((with_reducible refine gate_callee (f := 40) rfl ?_); refine goesL_ (some 14) rfl rfl Try.func40 (by kernel_rfl) rfl #[.pointer (some ⟨g111, 0, none⟩), .int .u64 5, .int .u64 1] rfl (by (try simp only [List.map_toArray, List.map_cons, List.map_nil]); first | done | rfl | (simp only [List.length_drop, List.length_take]; rfl)) ?_; (with_reducible refine (hist_Hist_Add.calls g111 t110 5 1 t112 w _ ?side1 ?side2 A2.out).mono ?_); (case side1 => repeat (first | (with_reducible first | exact HI111.out | apply IsS99.alloc | apply IsS99.drewN | apply IsS99.drew) | exact HI111.out)); (case side2 => repeat (first | (with_reducible first | exact HB.out | apply below_alloc | apply pw_below_drewN | apply below_drew1 | refine below_set ?_ (IsS99.ge HI111.out)) | exact HB.out)); rintro e w33 ⟨rfl, hi, hb, hk⟩; refine ⟨_, rfl, ?_⟩; have n0_ := Aside0.mk (hb); have n1_ := Aside0.mk (hi); clear HB; clear HI111; have HB := n0_; have HI111 := n1_; clear n0_ n1_; (try clear hb); (try clear hb2); (try clear hk); (try clear hi)) | ((with_reducible refine gate_callee (f := 40) rfl ?_); refine goesL_ (some 16) rfl rfl Try.func40 (by kernel_rfl) rfl #[.pointer (some ⟨g111, 0, none⟩), .int .u64 300, .int .u64 1] rfl (by (try simp only [List.map_toArray, List.map_cons, List.map_nil]); first | done | rfl | (simp only [List.length_drop, List.length_take]; rfl)) ?_; (with_reducible refine (hist_Hist_Add.calls g111 t112 300 1 t113 w _ ?side1 ?side2 A3.out).mono ?_); (case side1 => repeat (first | (with_reducible first | exact HI111.out | apply IsS99.alloc | apply IsS99.drewN | apply IsS99.drew) | exact HI111.out)); (case side2 => repeat (first | (with_reducible first | exact HB.out | apply below_alloc | apply pw_below_drewN | apply below_drew1 | refine below_set ?_ (IsS99.ge HI111.out)) | exact HB.out)); rintro e w34 ⟨rfl, hi, hb, hk⟩; refine ⟨_, rfl, ?_⟩; have n0_ := Aside0.mk (hb); have n1_ := Aside0.mk (hi); clear HB; clear HI111; have HB := n0_; have HI111 := n1_; clear n0_ n1_; (try clear hb); (try clear hb2); (try clear hk); (try clear hi)) | ((with_reducible refine gate_callee (f := 41) rfl ?_); refine goesL_ (some 19) rfl rfl Try.func41 (by kernel_rfl) rfl #[.pointer (some ⟨g111, 0, none⟩), .int .u64 1, .int .u64 2] rfl (by (try simp only [List.map_toArray, List.map_cons, List.map_nil]); first | done | rfl | (simp only [List.length_drop, List.length_take]; rfl)) ?_; (with_reducible refine (hist_Hist_Quantile.calls g111 t113 1 2 t114 t115 t116 w _ ?side1 ?side2 A4.out).mono ?_); (case side1 => repeat (first | (with_reducible first | exact HI111.out | apply IsS99.alloc | apply IsS99.drewN | apply IsS99.drew) | exact HI111.out)); (case side2 => repeat (first | (with_reducible first | exact HB.out | apply below_alloc | apply pw_below_drewN | apply below_drew1 | refine below_set ?_ (IsS99.ge HI111.out)) | exact HB.out)); rintro e w35 ⟨rfl, hi, hb, hk⟩; refine ⟨_, rfl, ?_⟩; have n0_ := Aside0.mk (hb); have n1_ := Aside0.mk (hi); clear HB; clear HI111; have HB := n0_; have HI111 := n1_; clear n0_ n1_; (try clear hb); (try clear hb2); (try clear hk); (try clear hi)) | ((with_reducible refine gate_callee (f := 41) rfl ?_); refine goesL_ (some 24) rfl rfl Try.func41 (by kernel_rfl) rfl #[.pointer (some ⟨g111, 0, none⟩), .int .u64 1, .int .u64 1] rfl (by (try simp only [List.map_toArray, List.map_cons, List.map_nil]); first | done | rfl | (simp only [List.length_drop, List.length_take]; rfl)) ?_; (with_reducible refine (hist_Hist_Quantile.calls g111 t116 1 1 t117 t118 t119 w _ ?side1 ?side2 A5.out).mono ?_); (case side1 => repeat (first | (with_reducible first | exact HI111.out | apply IsS99.alloc | apply IsS99.drewN | apply IsS99.drew) | exact HI111.out)); (case side2 => repeat (first | (with_reducible first | exact HB.out | apply below_alloc | apply pw_below_drewN | apply below_drew1 | refine below_set ?_ (IsS99.ge HI111.out)) | exact HB.out)); rintro e w36 ⟨rfl, hi, hb, hk⟩; refine ⟨_, rfl, ?_⟩; have n0_ := Aside0.mk (hb); have n1_ := Aside0.mk (hi); clear HB; clear HI111; have HB := n0_; have HI111 := n1_; clear n0_ n1_; (try clear hb); (try clear hb2); (try clear hk); (try clear hi)) | ((with_reducible refine gate_callee (f := 42) rfl ?_); refine goesL_ (some 28) rfl rfl Try.func42 (by kernel_rfl) rfl #[.int .i64 278] rfl (by (try simp only [List.map_toArray, List.map_cons, List.map_nil]); first | done | rfl | (simp only [List.length_drop, List.length_take]; rfl)) ?_; (with_reducible refine (hist_Low.calls 278 t120 true _ A6.out).mono ?_); rintro e w' ⟨rfl, ⟨nd, rfl⟩⟩; refine ⟨_, rfl, ?_⟩) | ((with_reducible refine gate_callee (f := 43) rfl ?_); refine goesL_ (some 32) rfl rfl Try.func43 (by kernel_rfl) rfl #[.int .i64 278] rfl (by (try simp only [List.map_toArray, List.map_cons, List.map_nil]); first | done | rfl | (simp only [List.length_drop, List.length_take]; rfl)) ?_; (with_reducible refine (hist_High.calls 278 t122 true _ A7.out).mono ?_); rintro e w' ⟨rfl, ⟨nd, rfl⟩⟩; refine ⟨_, rfl, ?_⟩) | ((with_reducible refine gate_callee (f := 44) rfl ?_); refine goesL_ (some 35) rfl rfl Try.func44 (by kernel_rfl) rfl #[.int .u64 300] rfl (by (try simp only [List.map_toArray, List.map_cons, List.map_nil]); first | done | rfl | (simp only [List.length_drop, List.length_take]; rfl)) ?_; (with_reducible refine (hist_Bucket.calls 300 t124 _ A8.out).mono ?_); rintro e w' ⟨rfl, ⟨nd, rfl⟩⟩; refine ⟨_, rfl, ?_⟩))
              go_ret
              exact ⟨by first | rfl | (simp [errW_none, errW_some] <;> rfl) | (simp [*, errW_none, errW_some] <;> rfl), by repeat (first | (with_reducible first | exact HB.out | apply below_alloc | apply pw_below_drewN | apply below_drew1 | refine below_set ?_ (IsS99.ge HI111.out)) | exact HB.out)⟩
          · replace c13 := Bool.eq_false_iff.mpr c13
            subst c13
            have H1 : (some false) = some r := by rw [if_neg (show ¬ (false = true) by decide)] at H; exact H
            clear H
            have H := H1
            clear H1
            obtain rfl := Option.some.inj H
            go_enter Try.func11, Try.ntmps11
            go_wp2_with (first | ((with_reducible refine gate_callee (f := 39) rfl ?_); refine goesL_ (some 10) rfl rfl Try.func39 (by kernel_rfl) rfl #[] rfl (by (try simp only [List.map_toArray, List.map_cons, List.map_nil]); first | done | rfl | (simp only [List.length_drop, List.length_take]; rfl)) ?_; (with_reducible refine (hist_New.calls  t110 w _ ?side1 A1.out).mono ?_); (case side1 => repeat (first | (with_reducible first | exact HB.out | apply below_alloc | apply pw_below_drewN | apply below_drew1) | exact HB.out)); rintro e w37 ⟨g111, rfl, hi, hb, hb2⟩; refine ⟨_, rfl, ?_⟩; have n0_ := Aside0.mk (hb); have n1_ := Aside0.mk (hi); clear HB; have HB := n0_; have HI111 := n1_; clear n0_ n1_; (try clear hb); (try clear hb2); (try clear hk); (try clear hi)) | ((with_reducible refine gate_callee (f := 40) rfl ?_); refine goesL_ (some 14) rfl rfl Try.func40 (by kernel_rfl) rfl #[.pointer (some ⟨g111, 0, none⟩), .int .u64 5, .int .u64 1] rfl (by (try simp only [List.map_toArray, List.map_cons, List.map_nil]); first | done | rfl | (simp only [List.length_drop, List.length_take]; rfl)) ?_; (with_reducible refine (hist_Hist_Add.calls g111 t110 5 1 t112 w _ ?side1 ?side2 A2.out).mono ?_); (case side1 => repeat (first | (with_reducible first | exact HI111.out | apply IsS99.alloc | apply IsS99.drewN | apply IsS99.drew) | exact HI111.out)); (case side2 => repeat (first | (with_reducible first | exact HB.out | apply below_alloc | apply pw_below_drewN | apply below_drew1 | refine below_set ?_ (IsS99.ge HI111.out)) | exact HB.out)); rintro e w38 ⟨rfl, hi, hb, hk⟩; refine ⟨_, rfl, ?_⟩; have n0_ := Aside0.mk (hb); have n1_ := Aside0.mk (hi); clear HB; clear HI111; have HB := n0_; have HI111 := n1_; clear n0_ n1_; (try clear hb); (try clear hb2); (try clear hk); (try clear hi)) | ((with_reducible refine gate_callee (f := 40) rfl ?_); refine goesL_ (some 16) rfl rfl Try.func40 (by kernel_rfl) rfl #[.pointer (some ⟨g111, 0, none⟩), .int .u64 300, .int .u64 1] rfl (by (try simp only [List.map_toArray, List.map_cons, List.map_nil]); first | done | rfl | (simp only [List.length_drop, List.length_take]; rfl)) ?_; (with_reducible refine (hist_Hist_Add.calls g111 t112 300 1 t113 w _ ?side1 ?side2 A3.out).mono ?_); (case side1 => repeat (first | (with_reducible first | exact HI111.out | apply IsS99.alloc | apply IsS99.drewN | apply IsS99.drew) | exact HI111.out)); (case side2 => repeat (first | (with_reducible first | exact HB.out | apply below_alloc | apply pw_below_drewN | apply below_drew1 | refine below_set ?_ (IsS99.ge HI111.out)) | exact HB.out)); rintro e w39 ⟨rfl, hi, hb, hk⟩; refine ⟨_, rfl, ?_⟩; have n0_ := Aside0.mk (hb); have n1_ := Aside0.mk (hi); clear HB; clear HI111; have HB := n0_; have HI111 := n1_; clear n0_ n1_; (try clear hb); (try clear hb2); (try clear hk); (try clear hi)) | ((with_reducible refine gate_callee (f := 41) rfl ?_); refine goesL_ (some 19) rfl rfl Try.func41 (by kernel_rfl) rfl #[.pointer (some ⟨g111, 0, none⟩), .int .u64 1, .int .u64 2] rfl (by (try simp only [List.map_toArray, List.map_cons, List.map_nil]); first | done | rfl | (simp only [List.length_drop, List.length_take]; rfl)) ?_; (with_reducible refine (hist_Hist_Quantile.calls g111 t113 1 2 t114 t115 t116 w _ ?side1 ?side2 A4.out).mono ?_); (case side1 => repeat (first | (with_reducible first | exact HI111.out | apply IsS99.alloc | apply IsS99.drewN | apply IsS99.drew) | exact HI111.out)); (case side2 => repeat (first | (with_reducible first | exact HB.out | apply below_alloc | apply pw_below_drewN | apply below_drew1 | refine below_set ?_ (IsS99.ge HI111.out)) | exact HB.out)); rintro e w40 ⟨rfl, hi, hb, hk⟩; refine ⟨_, rfl, ?_⟩; have n0_ := Aside0.mk (hb); have n1_ := Aside0.mk (hi); clear HB; clear HI111; have HB := n0_; have HI111 := n1_; clear n0_ n1_; (try clear hb); (try clear hb2); (try clear hk); (try clear hi)) | ((with_reducible refine gate_callee (f := 41) rfl ?_); refine goesL_ (some 24) rfl rfl Try.func41 (by kernel_rfl) rfl #[.pointer (some ⟨g111, 0, none⟩), .int .u64 1, .int .u64 1] rfl (by (try simp only [List.map_toArray, List.map_cons, List.map_nil]); first | done | rfl | (simp only [List.length_drop, List.length_take]; rfl)) ?_; (with_reducible refine (hist_Hist_Quantile.calls g111 t116 1 1 t117 t118 t119 w _ ?side1 ?side2 A5.out).mono ?_); (case side1 => repeat (first | (with_reducible first | exact HI111.out | apply IsS99.alloc | apply IsS99.drewN | apply IsS99.drew) | exact HI111.out)); (case side2 => repeat (first | (with_reducible first | exact HB.out | apply below_alloc | apply pw_below_drewN | apply below_drew1 | refine below_set ?_ (IsS99.ge HI111.out)) | exact HB.out)); rintro e w41 ⟨rfl, hi, hb, hk⟩; refine ⟨_, rfl, ?_⟩; have n0_ := Aside0.mk (hb); have n1_ := Aside0.mk (hi); clear HB; clear HI111; have HB := n0_; have HI111 := n1_; clear n0_ n1_; (try clear hb); (try clear hb2); (try clear hk); (try clear hi)) | ((with_reducible refine gate_callee (f := 42) rfl ?_); refine goesL_ (some 28) rfl rfl Try.func42 (by kernel_rfl) rfl #[.int .i64 278] rfl (by (try simp only [List.map_toArray, List.map_cons, List.map_nil]); first | done | rfl | (simp only [List.length_drop, List.length_take]; rfl)) ?_; (with_reducible refine (hist_Low.calls 278 t120 true _ A6.out).mono ?_); rintro e w' ⟨rfl, ⟨nd, rfl⟩⟩; refine ⟨_, rfl, ?_⟩) | ((with_reducible refine gate_callee (f := 43) rfl ?_); refine goesL_ (some 32) rfl rfl Try.func43 (by kernel_rfl) rfl #[.int .i64 278] rfl (by (try simp only [List.map_toArray, List.map_cons, List.map_nil]); first | done | rfl | (simp only [List.length_drop, List.length_take]; rfl)) ?_; (with_reducible refine (hist_High.calls 278 t122 false _ A7.out).mono ?_); rintro e w' ⟨rfl, ⟨nd, rfl⟩⟩; refine ⟨_, rfl, ?_⟩) | ((with_reducible refine gate_callee (f := 44) rfl ?_); refine goesL_ (some 35) rfl rfl Try.func44 (by kernel_rfl) rfl #[.int .u64 300] rfl (by (try simp only [List.map_toArray, List.map_cons, List.map_nil]); first | done | rfl | (simp only [List.length_drop, List.length_take]; rfl)) ?_; (with_reducible refine (hist_Bucket.calls 300 t124 _ A8.out).mono ?_); rintro e w' ⟨rfl, ⟨nd, rfl⟩⟩; refine ⟨_, rfl, ?_⟩))
            go_ret
            exact ⟨by first | rfl | (simp [errW_none, errW_some] <;> rfl) | (simp [*, errW_none, errW_some] <;> rfl), by repeat (first | (with_reducible first | exact HB.out | apply below_alloc | apply pw_below_drewN | apply below_drew1 | refine below_set ?_ (IsS99.ge HI111.out)) | exact HB.out)⟩
        · replace c12 := Bool.eq_false_iff.mpr c12
          subst c12
          have H1 : (some false) = some r := by rw [if_neg (show ¬ (false = true) by decide)] at H; exact H
          clear H
          have H := H1
          clear H1
          obtain rfl := Option.some.inj H
          go_enter Try.func11, Try.ntmps11
          go_wp2_with (first | ((with_reducible refine gate_callee (f := 39) rfl ?_); refine goesL_ (some 10) rfl rfl Try.func39 (by kernel_rfl) rfl #[] rfl (by (try simp only [List.map_toArray, List.map_cons, List.map_nil]); first | done | rfl | (simp only [List.length_drop, List.length_take]; rfl)) ?_; (with_reducible refine (hist_New.calls  t110 w _ ?side1 A1.out).mono ?_); (case side1 => repeat (first | (with_reducible first | exact HB.out | apply below_alloc | apply pw_below_drewN | apply below_drew1) | exact HB.out)); rintro e w42 ⟨g111, rfl, hi, hb, hb2⟩; refine ⟨_, rfl, ?_⟩; have n0_ := Aside0.mk (hb); have n1_ := Aside0.mk (hi); clear HB; have HB := n0_; have HI111 := n1_; clear n0_ n1_; (try clear hb); (try clear hb2); (try clear hk); (try clear hi)) | ((with_reducible refine gate_callee (f := 40) rfl ?_); refine goesL_ (some 14) rfl rfl Try.func40 (by kernel_rfl) rfl #[.pointer (some ⟨g111, 0, none⟩), .int .u64 5, .int .u64 1] rfl (by (try simp only [List.map_toArray, List.map_cons, List.map_nil]); first | done | rfl | (simp only [List.length_drop, List.length_take]; rfl)) ?_; (with_reducible refine (hist_Hist_Add.calls g111 t110 5 1 t112 w _ ?side1 ?side2 A2.out).mono ?_); (case side1 => repeat (first | (with_reducible first | exact HI111.out | apply IsS99.alloc | apply IsS99.drewN | apply IsS99.drew) | exact HI111.out)); (case side2 => repeat (first | (with_reducible first | exact HB.out | apply below_alloc | apply pw_below_drewN | apply below_drew1 | refine below_set ?_ (IsS99.ge HI111.out)) | exact HB.out)); rintro e w43 ⟨rfl, hi, hb, hk⟩; refine ⟨_, rfl, ?_⟩; have n0_ := Aside0.mk (hb); have n1_ := Aside0.mk (hi); clear HB; clear HI111; have HB := n0_; have HI111 := n1_; clear n0_ n1_; (try clear hb); (try clear hb2); (try clear hk); (try clear hi)) | ((with_reducible refine gate_callee (f := 40) rfl ?_); refine goesL_ (some 16) rfl rfl Try.func40 (by kernel_rfl) rfl #[.pointer (some ⟨g111, 0, none⟩), .int .u64 300, .int .u64 1] rfl (by (try simp only [List.map_toArray, List.map_cons, List.map_nil]); first | done | rfl | (simp only [List.length_drop, List.length_take]; rfl)) ?_; (with_reducible refine (hist_Hist_Add.calls g111 t112 300 1 t113 w _ ?side1 ?side2 A3.out).mono ?_); (case side1 => repeat (first | (with_reducible first | exact HI111.out | apply IsS99.alloc | apply IsS99.drewN | apply IsS99.drew) | exact HI111.out)); (case side2 => repeat (first | (with_reducible first | exact HB.out | apply below_alloc | apply pw_below_drewN | apply below_drew1 | refine below_set ?_ (IsS99.ge HI111.out)) | exact HB.out)); rintro e w44 ⟨rfl, hi, hb, hk⟩; refine ⟨_, rfl, ?_⟩; have n0_ := Aside0.mk (hb); have n1_ := Aside0.mk (hi); clear HB; clear HI111; have HB := n0_; have HI111 := n1_; clear n0_ n1_; (try clear hb); (try clear hb2); (try clear hk); (try clear hi)) | ((with_reducible refine gate_callee (f := 41) rfl ?_); refine goesL_ (some 19) rfl rfl Try.func41 (by kernel_rfl) rfl #[.pointer (some ⟨g111, 0, none⟩), .int .u64 1, .int .u64 2] rfl (by (try simp only [List.map_toArray, List.map_cons, List.map_nil]); first | done | rfl | (simp only [List.length_drop, List.length_take]; rfl)) ?_; (with_reducible refine (hist_Hist_Quantile.calls g111 t113 1 2 t114 t115 t116 w _ ?side1 ?side2 A4.out).mono ?_); (case side1 => repeat (first | (with_reducible first | exact HI111.out | apply IsS99.alloc | apply IsS99.drewN | apply IsS99.drew) | exact HI111.out)); (case side2 => repeat (first | (with_reducible first | exact HB.out | apply below_alloc | apply pw_below_drewN | apply below_drew1 | refine below_set ?_ (IsS99.ge HI111.out)) | exact HB.out)); rintro e w45 ⟨rfl, hi, hb, hk⟩; refine ⟨_, rfl, ?_⟩; have n0_ := Aside0.mk (hb); have n1_ := Aside0.mk (hi); clear HB; clear HI111; have HB := n0_; have HI111 := n1_; clear n0_ n1_; (try clear hb); (try clear hb2); (try clear hk); (try clear hi)) | ((with_reducible refine gate_callee (f := 41) rfl ?_); refine goesL_ (some 24) rfl rfl Try.func41 (by kernel_rfl) rfl #[.pointer (some ⟨g111, 0, none⟩), .int .u64 1, .int .u64 1] rfl (by (try simp only [List.map_toArray, List.map_cons, List.map_nil]); first | done | rfl | (simp only [List.length_drop, List.length_take]; rfl)) ?_; (with_reducible refine (hist_Hist_Quantile.calls g111 t116 1 1 t117 t118 t119 w _ ?side1 ?side2 A5.out).mono ?_); (case side1 => repeat (first | (with_reducible first | exact HI111.out | apply IsS99.alloc | apply IsS99.drewN | apply IsS99.drew) | exact HI111.out)); (case side2 => repeat (first | (with_reducible first | exact HB.out | apply below_alloc | apply pw_below_drewN | apply below_drew1 | refine below_set ?_ (IsS99.ge HI111.out)) | exact HB.out)); rintro e w46 ⟨rfl, hi, hb, hk⟩; refine ⟨_, rfl, ?_⟩; have n0_ := Aside0.mk (hb); have n1_ := Aside0.mk (hi); clear HB; clear HI111; have HB := n0_; have HI111 := n1_; clear n0_ n1_; (try clear hb); (try clear hb2); (try clear hk); (try clear hi)) | ((with_reducible refine gate_callee (f := 42) rfl ?_); refine goesL_ (some 28) rfl rfl Try.func42 (by kernel_rfl) rfl #[.int .i64 278] rfl (by (try simp only [List.map_toArray, List.map_cons, List.map_nil]); first | done | rfl | (simp only [List.length_drop, List.length_take]; rfl)) ?_; (with_reducible refine (hist_Low.calls 278 t120 false _ A6.out).mono ?_); rintro e w' ⟨rfl, ⟨nd, rfl⟩⟩; refine ⟨_, rfl, ?_⟩) | ((with_reducible refine gate_callee (f := 43) rfl ?_); refine goesL_ (some 32) rfl rfl Try.func43 (by kernel_rfl) rfl #[.int .i64 278] rfl (by (try simp only [List.map_toArray, List.map_cons, List.map_nil]); first | done | rfl | (simp only [List.length_drop, List.length_take]; rfl)) ?_; (with_reducible refine (hist_High.calls 278 t122 t123 _ A7.out).mono ?_); rintro e w' ⟨rfl, ⟨nd, rfl⟩⟩; refine ⟨_, rfl, ?_⟩) | ((with_reducible refine gate_callee (f := 44) rfl ?_); refine goesL_ (some 35) rfl rfl Try.func44 (by kernel_rfl) rfl #[.int .u64 300] rfl (by (try simp only [List.map_toArray, List.map_cons, List.map_nil]); first | done | rfl | (simp only [List.length_drop, List.length_take]; rfl)) ?_; (with_reducible refine (hist_Bucket.calls 300 t124 _ A8.out).mono ?_); rintro e w' ⟨rfl, ⟨nd, rfl⟩⟩; refine ⟨_, rfl, ?_⟩))
          go_ret
          exact ⟨by first | rfl | (simp [errW_none, errW_some] <;> rfl) | (simp [*, errW_none, errW_some] <;> rfl), by repeat (first | (with_reducible first | exact HB.out | apply below_alloc | apply pw_below_drewN | apply below_drew1 | refine below_set ?_ (IsS99.ge HI111.out)) | exact HB.out)⟩
      · rw [if_neg c11] at H
        have c11b0 : (t122 == 301) = false := beq_eq_false_iff_ne.mpr c11
        have c11b1 : (t122 != 301) = true := bne_iff_ne.mpr c11
        obtain rfl := Option.some.inj H
        go_enter Try.func11, Try.ntmps11
        go_wp2_with (first | ((with_reducible refine gate_callee (f := 39) rfl ?_); refine goesL_ (some 10) rfl rfl Try.func39 (by kernel_rfl) rfl #[] rfl (by (try simp only [List.map_toArray, List.map_cons, List.map_nil]); first | done | rfl | (simp only [List.length_drop, List.length_take]; rfl)) ?_; (with_reducible refine (hist_New.calls  t110 w _ ?side1 A1.out).mono ?_); (case side1 => repeat (first | (with_reducible first | exact HB.out | apply below_alloc | apply pw_below_drewN | apply below_drew1) | exact HB.out)); rintro e w47 ⟨g111, rfl, hi, hb, hb2⟩; refine ⟨_, rfl, ?_⟩; have n0_ := Aside0.mk (hb); have n1_ := Aside0.mk (hi); clear HB; have HB := n0_; have HI111 := n1_; clear n0_ n1_; (try clear hb); (try clear hb2); (try clear hk); (try clear hi)) | ((with_reducible refine gate_callee (f := 40) rfl ?_); refine goesL_ (some 14) rfl rfl Try.func40 (by kernel_rfl) rfl #[.pointer (some ⟨g111, 0, none⟩), .int .u64 5, .int .u64 1] rfl (by (try simp only [List.map_toArray, List.map_cons, List.map_nil]); first | done | rfl | (simp only [List.length_drop, List.length_take]; rfl)) ?_; (with_reducible refine (hist_Hist_Add.calls g111 t110 5 1 t112 w _ ?side1 ?side2 A2.out).mono ?_); (case side1 => repeat (first | (with_reducible first | exact HI111.out | apply IsS99.alloc | apply IsS99.drewN | apply IsS99.drew) | exact HI111.out)); (case side2 => repeat (first | (with_reducible first | exact HB.out | apply below_alloc | apply pw_below_drewN | apply below_drew1 | refine below_set ?_ (IsS99.ge HI111.out)) | exact HB.out)); rintro e w48 ⟨rfl, hi, hb, hk⟩; refine ⟨_, rfl, ?_⟩; have n0_ := Aside0.mk (hb); have n1_ := Aside0.mk (hi); clear HB; clear HI111; have HB := n0_; have HI111 := n1_; clear n0_ n1_; (try clear hb); (try clear hb2); (try clear hk); (try clear hi)) | ((with_reducible refine gate_callee (f := 40) rfl ?_); refine goesL_ (some 16) rfl rfl Try.func40 (by kernel_rfl) rfl #[.pointer (some ⟨g111, 0, none⟩), .int .u64 300, .int .u64 1] rfl (by (try simp only [List.map_toArray, List.map_cons, List.map_nil]); first | done | rfl | (simp only [List.length_drop, List.length_take]; rfl)) ?_; (with_reducible refine (hist_Hist_Add.calls g111 t112 300 1 t113 w _ ?side1 ?side2 A3.out).mono ?_); (case side1 => repeat (first | (with_reducible first | exact HI111.out | apply IsS99.alloc | apply IsS99.drewN | apply IsS99.drew) | exact HI111.out)); (case side2 => repeat (first | (with_reducible first | exact HB.out | apply below_alloc | apply pw_below_drewN | apply below_drew1 | refine below_set ?_ (IsS99.ge HI111.out)) | exact HB.out)); rintro e w49 ⟨rfl, hi, hb, hk⟩; refine ⟨_, rfl, ?_⟩; have n0_ := Aside0.mk (hb); have n1_ := Aside0.mk (hi); clear HB; clear HI111; have HB := n0_; have HI111 := n1_; clear n0_ n1_; (try clear hb); (try clear hb2); (try clear hk); (try clear hi)) | ((with_reducible refine gate_callee (f := 41) rfl ?_); refine goesL_ (some 19) rfl rfl Try.func41 (by kernel_rfl) rfl #[.pointer (some ⟨g111, 0, none⟩), .int .u64 1, .int .u64 2] rfl (by (try simp only [List.map_toArray, List.map_cons, List.map_nil]); first | done | rfl | (simp only [List.length_drop, List.length_take]; rfl)) ?_; (with_reducible refine (hist_Hist_Quantile.calls g111 t113 1 2 t114 t115 t116 w _ ?side1 ?side2 A4.out).mono ?_); (case side1 => repeat (first | (with_reducible first | exact HI111.out | apply IsS99.alloc | apply IsS99.drewN | apply IsS99.drew) | exact HI111.out)); (case side2 => repeat (first | (with_reducible first | exact HB.out | apply below_alloc | apply pw_below_drewN | apply below_drew1 | refine below_set ?_ (IsS99.ge HI111.out)) | exact HB.out)); rintro e w50 ⟨rfl, hi, hb, hk⟩; refine ⟨_, rfl, ?_⟩; have n0_ := Aside0.mk (hb); have n1_ := Aside0.mk (hi); clear HB; clear HI111; have HB := n0_; have HI111 := n1_; clear n0_ n1_; (try clear hb); (try clear hb2); (try clear hk); (try clear hi)) | ((with_reducible refine gate_callee (f := 41) rfl ?_); refine goesL_ (some 24) rfl rfl Try.func41 (by kernel_rfl) rfl #[.pointer (some ⟨g111, 0, none⟩), .int .u64 1, .int .u64 1] rfl (by (try simp only [List.map_toArray, List.map_cons, List.map_nil]); first | done | rfl | (simp only [List.length_drop, List.length_take]; rfl)) ?_; (with_reducible refine (hist_Hist_Quantile.calls g111 t116 1 1 t117 t118 t119 w _ ?side1 ?side2 A5.out).mono ?_); (case side1 => repeat (first | (with_reducible first | exact HI111.out | apply IsS99.alloc | apply IsS99.drewN | apply IsS99.drew) | exact HI111.out)); (case side2 => repeat (first | (with_reducible first | exact HB.out | apply below_alloc | apply pw_below_drewN | apply below_drew1 | refine below_set ?_ (IsS99.ge HI111.out)) | exact HB.out)); rintro e w51 ⟨rfl, hi, hb, hk⟩; refine ⟨_, rfl, ?_⟩; have n0_ := Aside0.mk (hb); have n1_ := Aside0.mk (hi); clear HB; clear HI111; have HB := n0_; have HI111 := n1_; clear n0_ n1_; (try clear hb); (try clear hb2); (try clear hk); (try clear hi)) | ((with_reducible refine gate_callee (f := 42) rfl ?_); refine goesL_ (some 28) rfl rfl Try.func42 (by kernel_rfl) rfl #[.int .i64 278] rfl (by (try simp only [List.map_toArray, List.map_cons, List.map_nil]); first | done | rfl | (simp only [List.length_drop, List.length_take]; rfl)) ?_; (with_reducible refine (hist_Low.calls 278 t120 t121 _ A6.out).mono ?_); rintro e w' ⟨rfl, ⟨nd, rfl⟩⟩; refine ⟨_, rfl, ?_⟩) | ((with_reducible refine gate_callee (f := 43) rfl ?_); refine goesL_ (some 32) rfl rfl Try.func43 (by kernel_rfl) rfl #[.int .i64 278] rfl (by (try simp only [List.map_toArray, List.map_cons, List.map_nil]); first | done | rfl | (simp only [List.length_drop, List.length_take]; rfl)) ?_; (with_reducible refine (hist_High.calls 278 t122 t123 _ A7.out).mono ?_); rintro e w' ⟨rfl, ⟨nd, rfl⟩⟩; refine ⟨_, rfl, ?_⟩) | ((with_reducible refine gate_callee (f := 44) rfl ?_); refine goesL_ (some 35) rfl rfl Try.func44 (by kernel_rfl) rfl #[.int .u64 300] rfl (by (try simp only [List.map_toArray, List.map_cons, List.map_nil]); first | done | rfl | (simp only [List.length_drop, List.length_take]; rfl)) ?_; (with_reducible refine (hist_Bucket.calls 300 t124 _ A8.out).mono ?_); rintro e w' ⟨rfl, ⟨nd, rfl⟩⟩; refine ⟨_, rfl, ?_⟩))
        go_ret
        exact ⟨by first | rfl | (simp [errW_none, errW_some] <;> rfl) | (simp [*, errW_none, errW_some] <;> rfl), by repeat (first | (with_reducible first | exact HB.out | apply below_alloc | apply pw_below_drewN | apply below_drew1 | refine below_set ?_ (IsS99.ge HI111.out)) | exact HB.out)⟩
    · rw [if_neg c10] at H
      have c10b0 : (t120 == 300) = false := beq_eq_false_iff_ne.mpr c10
      have c10b1 : (t120 != 300) = true := bne_iff_ne.mpr c10
      obtain rfl := Option.some.inj H
      go_enter Try.func11, Try.ntmps11
      go_wp2_with (first | ((with_reducible refine gate_callee (f := 39) rfl ?_); refine goesL_ (some 10) rfl rfl Try.func39 (by kernel_rfl) rfl #[] rfl (by (try simp only [List.map_toArray, List.map_cons, List.map_nil]); first | done | rfl | (simp only [List.length_drop, List.length_take]; rfl)) ?_; (with_reducible refine (hist_New.calls  t110 w _ ?side1 A1.out).mono ?_); (case side1 => repeat (first | (with_reducible first | exact HB.out | apply below_alloc | apply pw_below_drewN | apply below_drew1) | exact HB.out)); rintro e w52 ⟨g111, rfl, hi, hb, hb2⟩; refine ⟨_, rfl, ?_⟩; have n0_ := Aside0.mk (hb); have n1_ := Aside0.mk (hi); clear HB; have HB := n0_; have HI111 := n1_; clear n0_ n1_; (try clear hb); (try clear hb2); (try clear hk); (try clear hi)) | ((with_reducible refine gate_callee (f := 40) rfl ?_); refine goesL_ (some 14) rfl rfl Try.func40 (by kernel_rfl) rfl #[.pointer (some ⟨g111, 0, none⟩), .int .u64 5, .int .u64 1] rfl (by (try simp only [List.map_toArray, List.map_cons, List.map_nil]); first | done | rfl | (simp only [List.length_drop, List.length_take]; rfl)) ?_; (with_reducible refine (hist_Hist_Add.calls g111 t110 5 1 t112 w _ ?side1 ?side2 A2.out).mono ?_); (case side1 => repeat (first | (with_reducible first | exact HI111.out | apply IsS99.alloc | apply IsS99.drewN | apply IsS99.drew) | exact HI111.out)); (case side2 => repeat (first | (with_reducible first | exact HB.out | apply below_alloc | apply pw_below_drewN | apply below_drew1 | refine below_set ?_ (IsS99.ge HI111.out)) | exact HB.out)); rintro e w53 ⟨rfl, hi, hb, hk⟩; refine ⟨_, rfl, ?_⟩; have n0_ := Aside0.mk (hb); have n1_ := Aside0.mk (hi); clear HB; clear HI111; have HB := n0_; have HI111 := n1_; clear n0_ n1_; (try clear hb); (try clear hb2); (try clear hk); (try clear hi)) | ((with_reducible refine gate_callee (f := 40) rfl ?_); refine goesL_ (some 16) rfl rfl Try.func40 (by kernel_rfl) rfl #[.pointer (some ⟨g111, 0, none⟩), .int .u64 300, .int .u64 1] rfl (by (try simp only [List.map_toArray, List.map_cons, List.map_nil]); first | done | rfl | (simp only [List.length_drop, List.length_take]; rfl)) ?_; (with_reducible refine (hist_Hist_Add.calls g111 t112 300 1 t113 w _ ?side1 ?side2 A3.out).mono ?_); (case side1 => repeat (first | (with_reducible first | exact HI111.out | apply IsS99.alloc | apply IsS99.drewN | apply IsS99.drew) | exact HI111.out)); (case side2 => repeat (first | (with_reducible first | exact HB.out | apply below_alloc | apply pw_below_drewN | apply below_drew1 | refine below_set ?_ (IsS99.ge HI111.out)) | exact HB.out)); rintro e w54 ⟨rfl, hi, hb, hk⟩; refine ⟨_, rfl, ?_⟩; have n0_ := Aside0.mk (hb); have n1_ := Aside0.mk (hi); clear HB; clear HI111; have HB := n0_; have HI111 := n1_; clear n0_ n1_; (try clear hb); (try clear hb2); (try clear hk); (try clear hi)) | ((with_reducible refine gate_callee (f := 41) rfl ?_); refine goesL_ (some 19) rfl rfl Try.func41 (by kernel_rfl) rfl #[.pointer (some ⟨g111, 0, none⟩), .int .u64 1, .int .u64 2] rfl (by (try simp only [List.map_toArray, List.map_cons, List.map_nil]); first | done | rfl | (simp only [List.length_drop, List.length_take]; rfl)) ?_; (with_reducible refine (hist_Hist_Quantile.calls g111 t113 1 2 t114 t115 t116 w _ ?side1 ?side2 A4.out).mono ?_); (case side1 => repeat (first | (with_reducible first | exact HI111.out | apply IsS99.alloc | apply IsS99.drewN | apply IsS99.drew) | exact HI111.out)); (case side2 => repeat (first | (with_reducible first | exact HB.out | apply below_alloc | apply pw_below_drewN | apply below_drew1 | refine below_set ?_ (IsS99.ge HI111.out)) | exact HB.out)); rintro e w55 ⟨rfl, hi, hb, hk⟩; refine ⟨_, rfl, ?_⟩; have n0_ := Aside0.mk (hb); have n1_ := Aside0.mk (hi); clear HB; clear HI111; have HB := n0_; have HI111 := n1_; clear n0_ n1_; (try clear hb); (try clear hb2); (try clear hk); (try clear hi)) | ((with_reducible refine gate_callee (f := 41) rfl ?_); refine goesL_ (some 24) rfl rfl Try.func41 (by kernel_rfl) rfl #[.pointer (some ⟨g111, 0, none⟩), .int .u64 1, .int .u64 1] rfl (by (try simp only [List.map_toArray, List.map_cons, List.map_nil]); first | done | rfl | (simp only [List.length_drop, List.length_take]; rfl)) ?_; (with_reducible refine (hist_Hist_Quantile.calls g111 t116 1 1 t117 t118 t119 w _ ?side1 ?side2 A5.out).mono ?_); (case side1 => repeat (first | (with_reducible first | exact HI111.out | apply IsS99.alloc | apply IsS99.drewN | apply IsS99.drew) | exact HI111.out)); (case side2 => repeat (first | (with_reducible first | exact HB.out | apply below_alloc | apply pw_below_drewN | apply below_drew1 | refine below_set ?_ (IsS99.ge HI111.out)) | exact HB.out)); rintro e w56 ⟨rfl, hi, hb, hk⟩; refine ⟨_, rfl, ?_⟩; have n0_ := Aside0.mk (hb); have n1_ := Aside0.mk (hi); clear HB; clear HI111; have HB := n0_; have HI111 := n1_; clear n0_ n1_; (try clear hb); (try clear hb2); (try clear hk); (try clear hi)) | ((with_reducible refine gate_callee (f := 42) rfl ?_); refine goesL_ (some 28) rfl rfl Try.func42 (by kernel_rfl) rfl #[.int .i64 278] rfl (by (try simp only [List.map_toArray, List.map_cons, List.map_nil]); first | done | rfl | (simp only [List.length_drop, List.length_take]; rfl)) ?_; (with_reducible refine (hist_Low.calls 278 t120 t121 _ A6.out).mono ?_); rintro e w' ⟨rfl, ⟨nd, rfl⟩⟩; refine ⟨_, rfl, ?_⟩) | ((with_reducible refine gate_callee (f := 43) rfl ?_); refine goesL_ (some 32) rfl rfl Try.func43 (by kernel_rfl) rfl #[.int .i64 278] rfl (by (try simp only [List.map_toArray, List.map_cons, List.map_nil]); first | done | rfl | (simp only [List.length_drop, List.length_take]; rfl)) ?_; (with_reducible refine (hist_High.calls 278 t122 t123 _ A7.out).mono ?_); rintro e w' ⟨rfl, ⟨nd, rfl⟩⟩; refine ⟨_, rfl, ?_⟩) | ((with_reducible refine gate_callee (f := 44) rfl ?_); refine goesL_ (some 35) rfl rfl Try.func44 (by kernel_rfl) rfl #[.int .u64 300] rfl (by (try simp only [List.map_toArray, List.map_cons, List.map_nil]); first | done | rfl | (simp only [List.length_drop, List.length_take]; rfl)) ?_; (with_reducible refine (hist_Bucket.calls 300 t124 _ A8.out).mono ?_); rintro e w' ⟨rfl, ⟨nd, rfl⟩⟩; refine ⟨_, rfl, ?_⟩))
      go_ret
      exact ⟨by first | rfl | (simp [errW_none, errW_some] <;> rfl) | (simp [*, errW_none, errW_some] <;> rfl), by repeat (first | (with_reducible first | exact HB.out | apply below_alloc | apply pw_below_drewN | apply below_drew1 | refine below_set ?_ (IsS99.ge HI111.out)) | exact HB.out)⟩
  · rw [if_neg c9] at H
    have c9b0 : (t124 == 278) = false := beq_eq_false_iff_ne.mpr c9
    have c9b1 : (t124 != 278) = true := bne_iff_ne.mpr c9
    obtain rfl := Option.some.inj H
    go_enter Try.func11, Try.ntmps11
    go_wp2_with (first | ((with_reducible refine gate_callee (f := 39) rfl ?_); refine goesL_ (some 10) rfl rfl Try.func39 (by kernel_rfl) rfl #[] rfl (by (try simp only [List.map_toArray, List.map_cons, List.map_nil]); first | done | rfl | (simp only [List.length_drop, List.length_take]; rfl)) ?_; (with_reducible refine (hist_New.calls  t110 w _ ?side1 A1.out).mono ?_); (case side1 => repeat (first | (with_reducible first | exact HB.out | apply below_alloc | apply pw_below_drewN | apply below_drew1) | exact HB.out)); rintro e w57 ⟨g111, rfl, hi, hb, hb2⟩; refine ⟨_, rfl, ?_⟩; have n0_ := Aside0.mk (hb); have n1_ := Aside0.mk (hi); clear HB; have HB := n0_; have HI111 := n1_; clear n0_ n1_; (try clear hb); (try clear hb2); (try clear hk); (try clear hi)) | ((with_reducible refine gate_callee (f := 40) rfl ?_); refine goesL_ (some 14) rfl rfl Try.func40 (by kernel_rfl) rfl #[.pointer (some ⟨g111, 0, none⟩), .int .u64 5, .int .u64 1] rfl (by (try simp only [List.map_toArray, List.map_cons, List.map_nil]); first | done | rfl | (simp only [List.length_drop, List.length_take]; rfl)) ?_; (with_reducible refine (hist_Hist_Add.calls g111 t110 5 1 t112 w _ ?side1 ?side2 A2.out).mono ?_); (case side1 => repeat (first | (with_reducible first | exact HI111.out | apply IsS99.alloc | apply IsS99.drewN | apply IsS99.drew) | exact HI111.out)); (case side2 => repeat (first | (with_reducible first | exact HB.out | apply below_alloc | apply pw_below_drewN | apply below_drew1 | refine below_set ?_ (IsS99.ge HI111.out)) | exact HB.out)); rintro e w58 ⟨rfl, hi, hb, hk⟩; refine ⟨_, rfl, ?_⟩; have n0_ := Aside0.mk (hb); have n1_ := Aside0.mk (hi); clear HB; clear HI111; have HB := n0_; have HI111 := n1_; clear n0_ n1_; (try clear hb); (try clear hb2); (try clear hk); (try clear hi)) | ((with_reducible refine gate_callee (f := 40) rfl ?_); refine goesL_ (some 16) rfl rfl Try.func40 (by kernel_rfl) rfl #[.pointer (some ⟨g111, 0, none⟩), .int .u64 300, .int .u64 1] rfl (by (try simp only [List.map_toArray, List.map_cons, List.map_nil]); first | done | rfl | (simp only [List.length_drop, List.length_take]; rfl)) ?_; (with_reducible refine (hist_Hist_Add.calls g111 t112 300 1 t113 w _ ?side1 ?side2 A3.out).mono ?_); (case side1 => repeat (first | (with_reducible first | exact HI111.out | apply IsS99.alloc | apply IsS99.drewN | apply IsS99.drew) | exact HI111.out)); (case side2 => repeat (first | (with_reducible first | exact HB.out | apply below_alloc | apply pw_below_drewN | apply below_drew1 | refine below_set ?_ (IsS99.ge HI111.out)) | exact HB.out)); rintro e w59 ⟨rfl, hi, hb, hk⟩; refine ⟨_, rfl, ?_⟩; have n0_ := Aside0.mk (hb); have n1_ := Aside0.mk (hi); clear HB; clear HI111; have HB := n0_; have HI111 := n1_; clear n0_ n1_; (try clear hb); (try clear hb2); (try clear hk); (try clear hi)) | ((with_reducible refine gate_callee (f := 41) rfl ?_); refine goesL_ (some 19) rfl rfl Try.func41 (by kernel_rfl) rfl #[.pointer (some ⟨g111, 0, none⟩), .int .u64 1, .int .u64 2] rfl (by (try simp only [List.map_toArray, List.map_cons, List.map_nil]); first | done | rfl | (simp only [List.length_drop, List.length_take]; rfl)) ?_; (with_reducible refine (hist_Hist_Quantile.calls g111 t113 1 2 t114 t115 t116 w _ ?side1 ?side2 A4.out).mono ?_); (case side1 => repeat (first | (with_reducible first | exact HI111.out | apply IsS99.alloc | apply IsS99.drewN | apply IsS99.drew) | exact HI111.out)); (case side2 => repeat (first | (with_reducible first | exact HB.out | apply below_alloc | apply pw_below_drewN | apply below_drew1 | refine below_set ?_ (IsS99.ge HI111.out)) | exact HB.out)); rintro e w60 ⟨rfl, hi, hb, hk⟩; refine ⟨_, rfl, ?_⟩; have n0_ := Aside0.mk (hb); have n1_ := Aside0.mk (hi); clear HB; clear HI111; have HB := n0_; have HI111 := n1_; clear n0_ n1_; (try clear hb); (try clear hb2); (try clear hk); (try clear hi)) | ((with_reducible refine gate_callee (f := 41) rfl ?_); refine goesL_ (some 24) rfl rfl Try.func41 (by kernel_rfl) rfl #[.pointer (some ⟨g111, 0, none⟩), .int .u64 1, .int .u64 1] rfl (by (try simp only [List.map_toArray, List.map_cons, List.map_nil]); first | done | rfl | (simp only [List.length_drop, List.length_take]; rfl)) ?_; (with_reducible refine (hist_Hist_Quantile.calls g111 t116 1 1 t117 t118 t119 w _ ?side1 ?side2 A5.out).mono ?_); (case side1 => repeat (first | (with_reducible first | exact HI111.out | apply IsS99.alloc | apply IsS99.drewN | apply IsS99.drew) | exact HI111.out)); (case side2 => repeat (first | (with_reducible first | exact HB.out | apply below_alloc | apply pw_below_drewN | apply below_drew1 | refine below_set ?_ (IsS99.ge HI111.out)) | exact HB.out)); rintro e w61 ⟨rfl, hi, hb, hk⟩; refine ⟨_, rfl, ?_⟩; have n0_ := Aside0.mk (hb); have n1_ := Aside0.mk (hi); clear HB; clear HI111; have HB := n0_; have HI111 := n1_; clear n0_ n1_; (try clear hb); (try clear hb2); (try clear hk); (try clear hi)) | ((with_reducible refine gate_callee (f := 42) rfl ?_); refine goesL_ (some 28) rfl rfl Try.func42 (by kernel_rfl) rfl #[.int .i64 278] rfl (by (try simp only [List.map_toArray, List.map_cons, List.map_nil]); first | done | rfl | (simp only [List.length_drop, List.length_take]; rfl)) ?_; (with_reducible refine (hist_Low.calls 278 t120 t121 _ A6.out).mono ?_); rintro e w' ⟨rfl, ⟨nd, rfl⟩⟩; refine ⟨_, rfl, ?_⟩) | ((with_reducible refine gate_callee (f := 43) rfl ?_); refine goesL_ (some 32) rfl rfl Try.func43 (by kernel_rfl) rfl #[.int .i64 278] rfl (by (try simp only [List.map_toArray, List.map_cons, List.map_nil]); first | done | rfl | (simp only [List.length_drop, List.length_take]; rfl)) ?_; (with_reducible refine (hist_High.calls 278 t122 t123 _ A7.out).mono ?_); rintro e w' ⟨rfl, ⟨nd, rfl⟩⟩; refine ⟨_, rfl, ?_⟩) | ((with_reducible refine gate_callee (f := 44) rfl ?_); refine goesL_ (some 35) rfl rfl Try.func44 (by kernel_rfl) rfl #[.int .u64 300] rfl (by (try simp only [List.map_toArray, List.map_cons, List.map_nil]); first | done | rfl | (simp only [List.length_drop, List.length_take]; rfl)) ?_; (with_reducible refine (hist_Bucket.calls 300 t124 _ A8.out).mono ?_); rintro e w' ⟨rfl, ⟨nd, rfl⟩⟩; refine ⟨_, rfl, ?_⟩))
    go_ret
    exact ⟨by first | rfl | (simp [errW_none, errW_some] <;> rfl) | (simp [*, errW_none, errW_some] <;> rfl), by repeat (first | (with_reducible first | exact HB.out | apply below_alloc | apply pw_below_drewN | apply below_drew1 | refine below_set ?_ (IsS99.ge HI111.out)) | exact HB.out)⟩
/-- THE ONE PURE STATEMENT of varvelaw07_awake: yours. -/
def varvelaw07_awake.Pure : Prop := varvelaw07_awake.f  = some true
theorem varvelaw07_awake.walk (P : varvelaw07_awake.Pure)  (w : World)  :
    Calls Try.prog 11 #[] w fun e w' => e = .returned (.bool true) ∧ Below w.heap.size w w' := by
  have h := P  
  refine (varvelaw07_awake.calls  true w h).mono ?_
  rintro e w' ⟨rfl, hd⟩
  exact ⟨rfl, hd⟩
end Go.Proofs.Ytofgcacahfdjdaa.Hi
namespace Go.Proofs.Ytofgcacahfdjdaa.Hi
open Go.RowKit Go.Proofs.YtofgcacahfdjdaaW.PrintWords Go.Proofs.YtofgcacahfdjdaaW.PrintLast Go.Proofs.YtofgcacahfdjdaaW.PrintMore
attribute [local go_sem] max2_int min2_int max_two min_two max_three min_three max_four min_four   -- for this text's walks alone
set_option linter.unusedVariables false
set_option linter.unusedSimpArgs false
attribute [local go_sem high] eqA67
def hist_Check.l0 : Nat → Int → List (S67) → Int → Int → Option (Bool)
  | 0, _, _, _, _ => none
  | k + 1, x3, x6, x7, x8 => if x8 < x7 then (if 0 ≤ x8 then (if x8 < (x6.length : Int) then (if ((rd_T67 x6 x8).f0) ≤ x3 then (some false) else (if ((rd_T67 x6 x8).f0) ≥ 7424 then (some false) else (if ((rd_T67 x6 x8).f1) = 0 then (some false) else (hist_Check.l0 k ((rd_T67 x6 x8).f0) x6 x7 (wrap64 (x8 + 1)))))) else (none)) else (none)) else (some true)
def hist_Check.f (k : Nat) (l0 : List (S67)) : Option (Bool) := hist_Check.l0 k (-1) l0 (l0.length : Int) 0
theorem hist_Check.mono_l : ∀ k, (∀ y0 y1 y2 y3, LeO (hist_Check.l0 k y0 y1 y2 y3) (hist_Check.l0 (k + 1) y0 y1 y2 y3))
  | 0 => fun _ _ _ _ r h => by simp [hist_Check.l0] at h
  | k + 1 => by
    have ih0 := hist_Check.mono_l k
    · intro y0 y1 y2 y3
      unfold hist_Check.l0
      repeat' first
      | (with_reducible exact ih0 _ _ _ _)
      | (with_reducible exact LeO.refl _)
      | (with_reducible exact LeO.none _)
      | (with_reducible refine LeO.ite ?_ ?_)
      | (with_reducible refine LeO.bind ?_ (fun _ => ?_))
      | exact ih0 _ _ _ _
      | exact LeO.none _
      | refine LeO.ite ?_ ?_
      | refine LeO.bind ?_ (fun _ => ?_)
theorem hist_Check.mono : ∀ a0 k, LeO (hist_Check.f k a0) (hist_Check.f (k + 1) a0) := by
  intro a0 k
  have ih0 := hist_Check.mono_l k
  unfold hist_Check.f
  repeat' first
      | (with_reducible exact ih0 _ _ _ _)
      | (with_reducible exact LeO.refl _)
      | (with_reducible exact LeO.none _)
      | (with_reducible refine LeO.ite ?_ ?_)
      | (with_reducible refine LeO.bind ?_ (fun _ => ?_))
      | exact ih0 _ _ _ _
      | exact LeO.none _
      | refine LeO.ite ?_ ?_
      | refine LeO.bind ?_ (fun _ => ?_)
set_option maxHeartbeats 8000000 in
set_option maxRecDepth 100000 in
theorem hist_Check.calls (k : Nat) (A0 : Option Addr) (c0 : Nat) (l0 : List (S67)) (r : Bool) (w : World) (hr0 : Kd.C k67 w A0 l0.length l0) (hc0 : l0.length ≤ c0) (h : hist_Check.f k l0 = some r) :
    Calls Try.prog 34 #[.slice A0 l0.length c0] w fun e w' => e = .returned (.bool r) ∧ Below w.heap.size w w' := by
  have hu67 := Try.underlying67
  have HR0 := Aside0.mk hr0
  have HC0 := Aside0.mk hc0
  clear hr0 hc0
  have HB := Aside0.mk (Below.refl w.heap.size w)
  have H : (hist_Check.l0 k (-1) l0 (l0.length : Int) 0) = some r := h
  clear h
  have H' := Aside0.mk H
  clear H
  go_enter Try.func34, Try.ntmps34
  go_wp2
  go_loopg [3, 8] k (fun kq v3 v8 w' => ∃ (x3_1 : Int) (x8_1 : Int), v3 = .int .i64 x3_1 ∧ v8 = .int .i64 x8_1 ∧ Aside0 (hist_Check.l0 kq x3_1 l0 (l0.length : Int) x8_1 = some r) ∧ Aside0 (kq ≤ k) ∧ Aside0 (Below w.heap.size w w'))
  case atStart => exact ⟨((-1)), (0), (by first | rfl | (simp; done) | (simp [*]; done)), (by first | rfl | (simp; done) | (simp [*]; done)), H', ⟨Nat.le_refl _⟩, ⟨by repeat (first | (with_reducible first | exact HB.out | apply below_alloc | apply pw_below_drewN | apply below_drew1) | exact HB.out)⟩⟩
  case round =>
    clear H'
    obtain ⟨x3_1, x8_1, rfl, rfl, HA, HK1, HB⟩ := hrel
    cases gk with
    | zero => exact absurd HA.out (by simp [hist_Check.l0])
    | succ k1 =>
      have H := HA.out
      clear HA
      simp only [hist_Check.l0] at H
      by_cases c2 : x8_1 < (l0.length : Int)
      · rw [if_pos c2] at H
        have c2b0 : decide (x8_1 < (l0.length : Int)) = true := decide_eq_true c2
        clear c2
        by_cases c3 : 0 ≤ x8_1
        · rw [if_pos c3] at H
          have c3b0 : decide (0 ≤ x8_1) = true := decide_eq_true c3
          clear c3
          by_cases c4 : x8_1 < (l0.length : Int)
          · rw [if_pos c4] at H
            have c4b0 : decide (x8_1 < (l0.length : Int)) = true := decide_eq_true c4
            clear c4
            by_cases c5 : ((rd_T67 l0 x8_1).f0) ≤ x3_1
            · rw [if_pos c5] at H
              have c5b0 : decide (((rd_T67 l0 x8_1).f0) ≤ x3_1) = true := decide_eq_true c5
              clear c5
              obtain rfl := Option.some.inj H
              have p125 : 0 ≤ (x8_1 : Int) := of_decide_eq_true (by first | (with_reducible assumption) | assumption)
              have q125 : x8_1 < (l0.length : Int) := of_decide_eq_true (by first | (with_reducible assumption) | assumption)
              obtain ⟨ad125, e125, hx125_0, hx125_1⟩ := at_T67 HR0.out x8_1 p125 q125
              cases e125
              replace hx125_0 := (HB.out.cell (World.block_lt_of_cell? w _ hx125_0)).trans hx125_0
              replace hx125_1 := (HB.out.cell (World.block_lt_of_cell? w _ hx125_1)).trans hx125_1
              replace p125 := eq_true p125
              replace q125 := eq_true q125
              go_wp2_with (first | ((with_reducible refine gate_dst (N := 5) rfl ?_); refine box_event ?hg (N := 5) ?hd (cs := #[.int .i64 0, .int .u64 0]) (t := 67) ?hr ?_; (case hd => rfl); (case hg => rfl); (case hr => first | (go_simp; done) | (go_simp; rfl)); intro gb126 hg w6 hbox hb; have n0_ := Aside0.mk (below_step (by repeat (first | (with_reducible first | exact HB.out | apply below_alloc | apply pw_below_drewN | apply below_drew1) | exact HB.out)) hb); have n1_ := Aside0.mk (hbox); have n2_ := Aside0.mk ((by rw [hg]; exact (below_size (by repeat (first | (with_reducible first | exact HB.out | apply below_alloc | apply pw_below_drewN | apply below_drew1) | exact HB.out))) : w.heap.size ≤ gb126)); have n3_ := Aside0.mk ((by rw [hg]; exact (below_size (by repeat (first | (with_reducible first | exact HB.out | apply below_alloc | apply pw_below_drewN | apply below_drew1) | exact HB.out))) : w.heap.size ≤ gb126)); clear HB; have HB := n0_; have BK126 := n1_; have GW126 := n2_; have GE126 := n3_; clear n0_ n1_ n2_ n3_; clear hb hbox hg; have hcz7_0 : w6.cell? ⟨gb126, 0, none⟩ = some (.int .i64 0) := (blk_cell BK126.out 0).trans rfl; have hcz7_1 : w6.cell? ⟨gb126, 1, none⟩ = some (.int .u64 0) := (blk_cell BK126.out 1).trans rfl; have hfz7_0 := blk_frozen BK126.out 0; have hfz7_1 := blk_frozen BK126.out 1))
              go_ret
              exact ⟨by first | rfl | (simp [errW_none, errW_some] <;> rfl) | (simp [*, errW_none, errW_some] <;> rfl), by repeat (first | (with_reducible first | exact HB.out | apply below_alloc | apply pw_below_drewN | apply below_drew1 | refine below_set ?_ GE126.out) | exact HB.out)⟩
            · rw [if_neg c5] at H
              have c5b0 : decide (((rd_T67 l0 x8_1).f0) ≤ x3_1) = false := decide_eq_false c5
              clear c5
              by_cases c8 : ((rd_T67 l0 x8_1).f0) ≥ 7424
              · rw [if_pos c8] at H
                have c8b0 : decide (7424 ≤ ((rd_T67 l0 x8_1).f0)) = true := decide_eq_true c8
                clear c8
                obtain rfl := Option.some.inj H
                have p125 : 0 ≤ (x8_1 : Int) := of_decide_eq_true (by first | (with_reducible assumption) | assumption)
                have q125 : x8_1 < (l0.length : Int) := of_decide_eq_true (by first | (with_reducible assumption) | assumption)
                obtain ⟨ad125, e125, hx125_0, hx125_1⟩ := at_T67 HR0.out x8_1 p125 q125
                cases e125
                replace hx125_0 := (HB.out.cell (World.block_lt_of_cell? w _ hx125_0)).trans hx125_0
                replace hx125_1 := (HB.out.cell (World.block_lt_of_cell? w _ hx125_1)).trans hx125_1
                replace p125 := eq_true p125
                replace q125 := eq_true q125
                go_wp2_with (first | ((with_reducible refine gate_dst (N := 5) rfl ?_); refine box_event ?hg (N := 5) ?hd (cs := #[.int .i64 0, .int .u64 0]) (t := 67) ?hr ?_; (case hd => rfl); (case hg => rfl); (case hr => first | (go_simp; done) | (go_simp; rfl)); intro gb126 hg w9 hbox hb; have n0_ := Aside0.mk (below_step (by repeat (first | (with_reducible first | exact HB.out | apply below_alloc | apply pw_below_drewN | apply below_drew1) | exact HB.out)) hb); have n1_ := Aside0.mk (hbox); have n2_ := Aside0.mk ((by rw [hg]; exact (below_size (by repeat (first | (with_reducible first | exact HB.out | apply below_alloc | apply pw_below_drewN | apply below_drew1) | exact HB.out))) : w.heap.size ≤ gb126)); have n3_ := Aside0.mk ((by rw [hg]; exact (below_size (by repeat (first | (with_reducible first | exact HB.out | apply below_alloc | apply pw_below_drewN | apply below_drew1) | exact HB.out))) : w.heap.size ≤ gb126)); clear HB; have HB := n0_; have BK126 := n1_; have GW126 := n2_; have GE126 := n3_; clear n0_ n1_ n2_ n3_; clear hb hbox hg; have hcz10_0 : w9.cell? ⟨gb126, 0, none⟩ = some (.int .i64 0) := (blk_cell BK126.out 0).trans rfl; have hcz10_1 : w9.cell? ⟨gb126, 1, none⟩ = some (.int .u64 0) := (blk_cell BK126.out 1).trans rfl; have hfz10_0 := blk_frozen BK126.out 0; have hfz10_1 := blk_frozen BK126.out 1))
                go_ret
                exact ⟨by first | rfl | (simp [errW_none, errW_some] <;> rfl) | (simp [*, errW_none, errW_some] <;> rfl), by repeat (first | (with_reducible first | exact HB.out | apply below_alloc | apply pw_below_drewN | apply below_drew1 | refine below_set ?_ GE126.out) | exact HB.out)⟩
              · rw [if_neg c8] at H
                have c8b0 : decide (7424 ≤ ((rd_T67 l0 x8_1).f0)) = false := decide_eq_false c8
                clear c8
                by_cases c11 : ((rd_T67 l0 x8_1).f1) = 0
                · rw [if_pos c11] at H
                  have c11b0 : (((rd_T67 l0 x8_1).f1) == 0) = true := beq_iff_eq.mpr c11
                  have c11b1 : (((rd_T67 l0 x8_1).f1) != 0) = false := bne_eq_false_iff_eq.mpr c11
                  clear c11
                  obtain rfl := Option.some.inj H
                  have p125 : 0 ≤ (x8_1 : Int) := of_decide_eq_true (by first | (with_reducible assumption) | assumption)
                  have q125 : x8_1 < (l0.length : Int) := of_decide_eq_true (by first | (with_reducible assumption) | assumption)
                  obtain ⟨ad125, e125, hx125_0, hx125_1⟩ := at_T67 HR0.out x8_1 p125 q125
                  cases e125
                  replace hx125_0 := (HB.out.cell (World.block_lt_of_cell? w _ hx125_0)).trans hx125_0
                  replace hx125_1 := (HB.out.cell (World.block_lt_of_cell? w _ hx125_1)).trans hx125_1
                  replace p125 := eq_true p125
                  replace q125 := eq_true q125
                  go_wp2_with (first | ((with_reducible refine gate_dst (N := 5) rfl ?_); refine box_event ?hg (N := 5) ?hd (cs := #[.int .i64 0, .int .u64 0]) (t := 67) ?hr ?_; (case hd => rfl); (case hg => rfl); (case hr => first | (go_simp; done) | (go_simp; rfl)); intro gb126 hg w12 hbox hb; have n0_ := Aside0.mk (below_step (by repeat (first | (with_reducible first | exact HB.out | apply below_alloc | apply pw_below_drewN | apply below_drew1) | exact HB.out)) hb); have n1_ := Aside0.mk (hbox); have n2_ := Aside0.mk ((by rw [hg]; exact (below_size (by repeat (first | (with_reducible first | exact HB.out | apply below_alloc | apply pw_below_drewN | apply below_drew1) | exact HB.out))) : w.heap.size ≤ gb126)); have n3_ := Aside0.mk ((by rw [hg]; exact (below_size (by repeat (first | (with_reducible first | exact HB.out | apply below_alloc | apply pw_below_drewN | apply below_drew1) | exact HB.out))) : w.heap.size ≤ gb126)); clear HB; have HB := n0_; have BK126 := n1_; have GW126 := n2_; have GE126 := n3_; clear n0_ n1_ n2_ n3_; clear hb hbox hg; have hcz13_0 : w12.cell? ⟨gb126, 0, none⟩ = some (.int .i64 0) := (blk_cell BK126.out 0).trans rfl; have hcz13_1 : w12.cell? ⟨gb126, 1, none⟩ = some (.int .u64 0) := (blk_cell BK126.out 1).trans rfl; have hfz13_0 := blk_frozen BK126.out 0; have hfz13_1 := blk_frozen BK126.out 1))
                  go_ret
                  exact ⟨by first | rfl | (simp [errW_none, errW_some] <;> rfl) | (simp [*, errW_none, errW_some] <;> rfl), by repeat (first | (with_reducible first | exact HB.out | apply below_alloc | apply pw_below_drewN | apply below_drew1 | refine below_set ?_ GE126.out) | exact HB.out)⟩
                · rw [if_neg c11] at H
                  have c11b0 : (((rd_T67 l0 x8_1).f1) == 0) = false := beq_eq_false_iff_ne.mpr c11
                  have c11b1 : (((rd_T67 l0 x8_1).f1) != 0) = true := bne_iff_ne.mpr c11
                  have H' := Aside0.mk H
                  clear H
                  have p125 : 0 ≤ (x8_1 : Int) := of_decide_eq_true (by first | (with_reducible assumption) | assumption)
                  have q125 : x8_1 < (l0.length : Int) := of_decide_eq_true (by first | (with_reducible assumption) | assumption)
                  obtain ⟨ad125, e125, hx125_0, hx125_1⟩ := at_T67 HR0.out x8_1 p125 q125
                  cases e125
                  replace hx125_0 := (HB.out.cell (World.block_lt_of_cell? w _ hx125_0)).trans hx125_0
                  replace hx125_1 := (HB.out.cell (World.block_lt_of_cell? w _ hx125_1)).trans hx125_1
                  replace p125 := eq_true p125
                  replace q125 := eq_true q125
                  go_wp2_with (first | ((with_reducible refine gate_dst (N := 5) rfl ?_); refine box_event ?hg (N := 5) ?hd (cs := #[.int .i64 0, .int .u64 0]) (t := 67) ?hr ?_; (case hd => rfl); (case hg => rfl); (case hr => first | (go_simp; done) | (go_simp; rfl)); intro gb126 hg w14 hbox hb; have n0_ := Aside0.mk (below_step (by repeat (first | (with_reducible first | exact HB.out | apply below_alloc | apply pw_below_drewN | apply below_drew1) | exact HB.out)) hb); have n1_ := Aside0.mk (hbox); have n2_ := Aside0.mk ((by rw [hg]; exact (below_size (by repeat (first | (with_reducible first | exact HB.out | apply below_alloc | apply pw_below_drewN | apply below_drew1) | exact HB.out))) : w.heap.size ≤ gb126)); have n3_ := Aside0.mk ((by rw [hg]; exact (below_size (by repeat (first | (with_reducible first | exact HB.out | apply below_alloc | apply pw_below_drewN | apply below_drew1) | exact HB.out))) : w.heap.size ≤ gb126)); clear HB; have HB := n0_; have BK126 := n1_; have GW126 := n2_; have GE126 := n3_; clear n0_ n1_ n2_ n3_; clear hb hbox hg; have hcz15_0 : w14.cell? ⟨gb126, 0, none⟩ = some (.int .i64 0) := (blk_cell BK126.out 0).trans rfl; have hcz15_1 : w14.cell? ⟨gb126, 1, none⟩ = some (.int .u64 0) := (blk_cell BK126.out 1).trans rfl; have hfz15_0 := blk_frozen BK126.out 0; have hfz15_1 := blk_frozen BK126.out 1))
                  go_roundg k1
                  case measure => have := HK1.out; omega
                  case rel => exact ⟨((rd_T67 l0 x8_1).f0), (wrap64 (x8_1 + 1)), (by first | rfl | (simp; done) | (simp [*]; done)), (by first | rfl | (simp; done) | (simp [*]; done)), H', ⟨by have := HK1.out; omega⟩, ⟨by repeat (first | (with_reducible first | exact HB.out | apply below_alloc | apply pw_below_drewN | apply below_drew1 | refine below_set ?_ GE126.out) | exact HB.out)⟩⟩
          · rw [if_neg c4] at H
            exact absurd H (by simp)
        · rw [if_neg c3] at H
          exact absurd H (by simp)
      · rw [if_neg c2] at H
        have c2b0 : decide (x8_1 < (l0.length : Int)) = false := decide_eq_false c2
        clear c2
        obtain rfl := Option.some.inj H
        go_wp2
        go_ret
        exact ⟨by first | rfl | (simp [errW_none, errW_some] <;> rfl) | (simp [*, errW_none, errW_some] <;> rfl), by repeat (first | (with_reducible first | exact HB.out | apply below_alloc | apply pw_below_drewN | apply below_drew1) | exact HB.out)⟩
def varveref07_Check.l0 : Nat → List (S67) → Int → Option (Bool)
  | 0, _, _ => none
  | k + 1, x0, x3 => if x3 < (x0.length : Int) then (if 0 ≤ x3 then (if ((rd_T67 x0 x3).f0) < 0 then (some false) else (if ((rd_T67 x0 x3).f0) ≥ 7424 then (some false) else (if ((rd_T67 x0 x3).f1) = 0 then (some false) else (if x3 > 0 then (if 0 ≤ (wrap64 (x3 - 1)) then (if (wrap64 (x3 - 1)) < (x0.length : Int) then (if ((rd_T67 x0 x3).f0) ≤ ((rd_T67 x0 (wrap64 (x3 - 1))).f0) then (some false) else (varveref07_Check.l0 k x0 (wrap64 (x3 + 1)))) else (none)) else (none)) else (varveref07_Check.l0 k x0 (wrap64 (x3 + 1))))))) else (none)) else (some true)
def varveref07_Check.f (k : Nat) (l0 : List (S67)) : Option (Bool) := varveref07_Check.l0 k l0 0
theorem varveref07_Check.mono_l : ∀ k, (∀ y0 y1, LeO (varveref07_Check.l0 k y0 y1) (varveref07_Check.l0 (k + 1) y0 y1))
  | 0 => fun _ _ r h => by simp [varveref07_Check.l0] at h
  | k + 1 => by
    have ih0 := varveref07_Check.mono_l k
    · intro y0 y1
      unfold varveref07_Check.l0
      repeat' first
      | (with_reducible exact ih0 _ _)
      | (with_reducible exact LeO.refl _)
      | (with_reducible exact LeO.none _)
      | (with_reducible refine LeO.ite ?_ ?_)
      | (with_reducible refine LeO.bind ?_ (fun _ => ?_))
      | exact ih0 _ _
      | exact LeO.none _
      | refine LeO.ite ?_ ?_
      | refine LeO.bind ?_ (fun _ => ?_)
theorem varveref07_Check.mono : ∀ a0 k, LeO (varveref07_Check.f k a0) (varveref07_Check.f (k + 1) a0) := by
  intro a0 k
  have ih0 := varveref07_Check.mono_l k
  unfold varveref07_Check.f
  repeat' first
      | (with_reducible exact ih0 _ _)
      | (with_reducible exact LeO.refl _)
      | (with_reducible exact LeO.none _)
      | (with_reducible refine LeO.ite ?_ ?_)
      | (with_reducible refine LeO.bind ?_ (fun _ => ?_))
      | exact ih0 _ _
      | exact LeO.none _
      | refine LeO.ite ?_ ?_
      | refine LeO.bind ?_ (fun _ => ?_)
set_option maxHeartbeats 8000000 in
set_option maxRecDepth 100000 in
theorem varveref07_Check.calls (k : Nat) (A0 : Option Addr) (c0 : Nat) (l0 : List (S67)) (r : Bool) (w : World) (hr0 : Kd.C k67 w A0 l0.length l0) (hc0 : l0.length ≤ c0) (h : varveref07_Check.f k l0 = some r) :
    Calls Try.prog 15 #[.slice A0 l0.length c0] w fun e w' => e = .returned (.bool r) ∧ Drawn0 w w' := by
  have HR0 := Aside0.mk hr0
  have HC0 := Aside0.mk hc0
  clear hr0 hc0
  have H : (varveref07_Check.l0 k l0 0) = some r := h
  clear h
  have H' := Aside0.mk H
  clear H
  go_enter Try.func15, Try.ntmps15
  go_wp2
  repeat (go_quiet (fail); try go_wp2)
  go_loopg [3] k (fun kq v3 w' => ∃ (x3_1 : Int), v3 = .int .i64 x3_1 ∧ Aside0 (varveref07_Check.l0 kq l0 x3_1 = some r) ∧ Aside0 (kq ≤ k) ∧ Drawn0 w w')
  case atStart => exact ⟨(0), (by first | rfl | (simp; done) | (simp [*]; done)), H', ⟨Nat.le_refl _⟩, by repeat (first | exact Drawn0.refl _ | apply Drawn0.step)⟩
  case round =>
    clear H'
    try clear c1
    obtain ⟨x3_1, rfl, HA, HK1, ⟨m1, rfl⟩⟩ := hrel
    cases gk with
    | zero => exact absurd HA.out (by simp [varveref07_Check.l0])
    | succ k1 =>
      have H := HA.out
      clear HA
      simp only [varveref07_Check.l0] at H
      by_cases c2 : x3_1 < (l0.length : Int)
      · rw [if_pos c2] at H
        have c2b0 : decide (x3_1 < (l0.length : Int)) = true := decide_eq_true c2
        clear c2
        by_cases c3 : 0 ≤ x3_1
        · rw [if_pos c3] at H
          have c3b0 : decide (0 ≤ x3_1) = true := decide_eq_true c3
          clear c3
          by_cases c4 : ((rd_T67 l0 x3_1).f0) < 0
          · rw [if_pos c4] at H
            have c4b0 : decide (((rd_T67 l0 x3_1).f0) < 0) = true := decide_eq_true c4
            clear c4
            obtain rfl := Option.some.inj H
            have p127 : 0 ≤ (x3_1 : Int) := of_decide_eq_true (by first | (with_reducible assumption) | assumption)
            have q127 : x3_1 < (l0.length : Int) := of_decide_eq_true (by first | (with_reducible assumption) | assumption)
            obtain ⟨ad127, e127, hx127_0, hx127_1⟩ := at_T67 HR0.out x3_1 p127 q127
            cases e127
            replace p127 := eq_true p127
            replace q127 := eq_true q127
            go_wp2
            repeat (go_quiet (fail); try go_wp2)
            go_ret
            exact ⟨by first | rfl | (simp; done) | (simp [*]; done), by repeat (first | exact Drawn0.refl _ | apply Drawn0.step)⟩
          · rw [if_neg c4] at H
            have c4b0 : decide (((rd_T67 l0 x3_1).f0) < 0) = false := decide_eq_false c4
            clear c4
            by_cases c5 : ((rd_T67 l0 x3_1).f0) ≥ 7424
            · rw [if_pos c5] at H
              have c5b0 : decide (7424 ≤ ((rd_T67 l0 x3_1).f0)) = true := decide_eq_true c5
              clear c5
              obtain rfl := Option.some.inj H
              have p127 : 0 ≤ (x3_1 : Int) := of_decide_eq_true (by first | (with_reducible assumption) | assumption)
              have q127 : x3_1 < (l0.length : Int) := of_decide_eq_true (by first | (with_reducible assumption) | assumption)
              obtain ⟨ad127, e127, hx127_0, hx127_1⟩ := at_T67 HR0.out x3_1 p127 q127
              cases e127
              replace p127 := eq_true p127
              replace q127 := eq_true q127
              have p128 : 0 ≤ (x3_1 : Int) := of_decide_eq_true (by first | (with_reducible assumption) | assumption)
              have q128 : x3_1 < (l0.length : Int) := of_decide_eq_true (by first | (with_reducible assumption) | assumption)
              obtain ⟨ad128, e128, hx128_0, hx128_1⟩ := at_T67 HR0.out x3_1 p128 q128
              obtain rfl : ad127 = ad128 := (by injection e128)
              replace p128 := eq_true p128
              replace q128 := eq_true q128
              go_wp2
              repeat (go_quiet (fail); try go_wp2)
              go_ret
              exact ⟨by first | rfl | (simp; done) | (simp [*]; done), by repeat (first | exact Drawn0.refl _ | apply Drawn0.step)⟩
            · rw [if_neg c5] at H
              have c5b0 : decide (7424 ≤ ((rd_T67 l0 x3_1).f0)) = false := decide_eq_false c5
              clear c5
              by_cases c6 : ((rd_T67 l0 x3_1).f1) = 0
              · rw [if_pos c6] at H
                have c6b0 : (((rd_T67 l0 x3_1).f1) == 0) = true := beq_iff_eq.mpr c6
                have c6b1 : (((rd_T67 l0 x3_1).f1) != 0) = false := bne_eq_false_iff_eq.mpr c6
                clear c6
                obtain rfl := Option.some.inj H
                have p127 : 0 ≤ (x3_1 : Int) := of_decide_eq_true (by first | (with_reducible assumption) | assumption)
                have q127 : x3_1 < (l0.length : Int) := of_decide_eq_true (by first | (with_reducible assumption) | assumption)
                obtain ⟨ad127, e127, hx127_0, hx127_1⟩ := at_T67 HR0.out x3_1 p127 q127
                cases e127
                replace p127 := eq_true p127
                replace q127 := eq_true q127
                have p128 : 0 ≤ (x3_1 : Int) := of_decide_eq_true (by first | (with_reducible assumption) | assumption)
                have q128 : x3_1 < (l0.length : Int) := of_decide_eq_true (by first | (with_reducible assumption) | assumption)
                obtain ⟨ad128, e128, hx128_0, hx128_1⟩ := at_T67 HR0.out x3_1 p128 q128
                obtain rfl : ad127 = ad128 := (by injection e128)
                replace p128 := eq_true p128
                replace q128 := eq_true q128
                have p129 : 0 ≤ (x3_1 : Int) := of_decide_eq_true (by first | (with_reducible assumption) | assumption)
                have q129 : x3_1 < (l0.length : Int) := of_decide_eq_true (by first | (with_reducible assumption) | assumption)
                obtain ⟨ad129, e129, hx129_0, hx129_1⟩ := at_T67 HR0.out x3_1 p129 q129
                obtain rfl : ad127 = ad129 := (by injection e129)
                replace p129 := eq_true p129
                replace q129 := eq_true q129
                go_wp2
                repeat (go_quiet (fail); try go_wp2)
                go_ret
                exact ⟨by first | rfl | (simp; done) | (simp [*]; done), by repeat (first | exact Drawn0.refl _ | apply Drawn0.step)⟩
              · rw [if_neg c6] at H
                have c6b0 : (((rd_T67 l0 x3_1).f1) == 0) = false := beq_eq_false_iff_ne.mpr c6
                have c6b1 : (((rd_T67 l0 x3_1).f1) != 0) = true := bne_iff_ne.mpr c6
                by_cases c7 : x3_1 > 0
                · rw [if_pos c7] at H
                  have c7b0 : decide (0 < x3_1) = true := decide_eq_true c7
                  clear c7
                  obtain ⟨ji8, hji8⟩ : ∃ j_ : Int, (wrap64 (x3_1 - 1)) = j_ := ⟨_, rfl⟩
                  replace H : (if 0 ≤ (ji8) then (if (ji8) < (l0.length : Int) then (if ((rd_T67 l0 x3_1).f0) ≤ ((rd_T67 l0 (ji8)).f0) then (some false) else (varveref07_Check.l0 k1 l0 (wrap64 (x3_1 + 1)))) else (none)) else (none)) = some r := by first | (rw [hji8] at H; exact H) | (simp only [hji8] at H ⊢; exact H)
                  have hji8w : (IntKind.i64.wrap (x3_1 - 1)) = ji8 := (i64_w _).trans hji8
                  by_cases c9 : 0 ≤ (ji8)
                  · rw [if_pos c9] at H
                    have c9b0 : decide (0 ≤ (ji8)) = true := decide_eq_true c9
                    clear c9
                    by_cases c10 : (ji8) < (l0.length : Int)
                    · rw [if_pos c10] at H
                      have c10b0 : decide ((ji8) < (l0.length : Int)) = true := decide_eq_true c10
                      clear c10
                      by_cases c11 : ((rd_T67 l0 x3_1).f0) ≤ ((rd_T67 l0 (ji8)).f0)
                      · rw [if_pos c11] at H
                        have c11b0 : decide (((rd_T67 l0 x3_1).f0) ≤ ((rd_T67 l0 (ji8)).f0)) = true := decide_eq_true c11
                        clear c11
                        obtain rfl := Option.some.inj H
                        have p127 : 0 ≤ (x3_1 : Int) := of_decide_eq_true (by first | (with_reducible assumption) | assumption)
                        have q127 : x3_1 < (l0.length : Int) := of_decide_eq_true (by first | (with_reducible assumption) | assumption)
                        obtain ⟨ad127, e127, hx127_0, hx127_1⟩ := at_T67 HR0.out x3_1 p127 q127
                        cases e127
                        replace p127 := eq_true p127
                        replace q127 := eq_true q127
                        have p128 : 0 ≤ (x3_1 : Int) := of_decide_eq_true (by first | (with_reducible assumption) | assumption)
                        have q128 : x3_1 < (l0.length : Int) := of_decide_eq_true (by first | (with_reducible assumption) | assumption)
                        obtain ⟨ad128, e128, hx128_0, hx128_1⟩ := at_T67 HR0.out x3_1 p128 q128
                        obtain rfl : ad127 = ad128 := (by injection e128)
                        replace p128 := eq_true p128
                        replace q128 := eq_true q128
                        have p129 : 0 ≤ (x3_1 : Int) := of_decide_eq_true (by first | (with_reducible assumption) | assumption)
                        have q129 : x3_1 < (l0.length : Int) := of_decide_eq_true (by first | (with_reducible assumption) | assumption)
                        obtain ⟨ad129, e129, hx129_0, hx129_1⟩ := at_T67 HR0.out x3_1 p129 q129
                        obtain rfl : ad127 = ad129 := (by injection e129)
                        replace p129 := eq_true p129
                        replace q129 := eq_true q129
                        have p130 : 0 ≤ (x3_1 : Int) := of_decide_eq_true (by first | (with_reducible assumption) | assumption)
                        have q130 : x3_1 < (l0.length : Int) := of_decide_eq_true (by first | (with_reducible assumption) | assumption)
                        obtain ⟨ad130, e130, hx130_0, hx130_1⟩ := at_T67 HR0.out x3_1 p130 q130
                        obtain rfl : ad127 = ad130 := (by injection e130)
                        replace p130 := eq_true p130
                        replace q130 := eq_true q130
                        have p131 : 0 ≤ ((ji8) : Int) := of_decide_eq_true (by first | (with_reducible assumption) | assumption)
                        have q131 : (ji8) < (l0.length : Int) := of_decide_eq_true (by first | (with_reducible assumption) | assumption)
                        obtain ⟨ad131, e131, hx131_0, hx131_1⟩ := at_T67 HR0.out (ji8) p131 q131
                        obtain rfl : ad127 = ad131 := (by injection e131)
                        replace p131 := eq_true p131
                        replace q131 := eq_true q131
                        go_wp2
                        repeat (go_quiet (fail); try go_wp2)
                        go_ret
                        exact ⟨by first | rfl | (simp; done) | (simp only [← hji8] <;> (first | rfl | simp)) | (simp [*]; done), by repeat (first | exact Drawn0.refl _ | apply Drawn0.step)⟩
                      · rw [if_neg c11] at H
                        have c11b0 : decide (((rd_T67 l0 x3_1).f0) ≤ ((rd_T67 l0 (ji8)).f0)) = false := decide_eq_false c11
                        clear c11
                        have H' := Aside0.mk H
                        clear H
                        have p127 : 0 ≤ (x3_1 : Int) := of_decide_eq_true (by first | (with_reducible assumption) | assumption)
                        have q127 : x3_1 < (l0.length : Int) := of_decide_eq_true (by first | (with_reducible assumption) | assumption)
                        obtain ⟨ad127, e127, hx127_0, hx127_1⟩ := at_T67 HR0.out x3_1 p127 q127
                        cases e127
                        replace p127 := eq_true p127
                        replace q127 := eq_true q127
                        have p128 : 0 ≤ (x3_1 : Int) := of_decide_eq_true (by first | (with_reducible assumption) | assumption)
                        have q128 : x3_1 < (l0.length : Int) := of_decide_eq_true (by first | (with_reducible assumption) | assumption)
                        obtain ⟨ad128, e128, hx128_0, hx128_1⟩ := at_T67 HR0.out x3_1 p128 q128
                        obtain rfl : ad127 = ad128 := (by injection e128)
                        replace p128 := eq_true p128
                        replace q128 := eq_true q128
                        have p129 : 0 ≤ (x3_1 : Int) := of_decide_eq_true (by first | (with_reducible assumption) | assumption)
                        have q129 : x3_1 < (l0.length : Int) := of_decide_eq_true (by first | (with_reducible assumption) | assumption)
                        obtain ⟨ad129, e129, hx129_0, hx129_1⟩ := at_T67 HR0.out x3_1 p129 q129
                        obtain rfl : ad127 = ad129 := (by injection e129)
                        replace p129 := eq_true p129
                        replace q129 := eq_true q129
                        have p130 : 0 ≤ (x3_1 : Int) := of_decide_eq_true (by first | (with_reducible assumption) | assumption)
                        have q130 : x3_1 < (l0.length : Int) := of_decide_eq_true (by first | (with_reducible assumption) | assumption)
                        obtain ⟨ad130, e130, hx130_0, hx130_1⟩ := at_T67 HR0.out x3_1 p130 q130
                        obtain rfl : ad127 = ad130 := (by injection e130)
                        replace p130 := eq_true p130
                        replace q130 := eq_true q130
                        have p131 : 0 ≤ ((ji8) : Int) := of_decide_eq_true (by first | (with_reducible assumption) | assumption)
                        have q131 : (ji8) < (l0.length : Int) := of_decide_eq_true (by first | (with_reducible assumption) | assumption)
                        obtain ⟨ad131, e131, hx131_0, hx131_1⟩ := at_T67 HR0.out (ji8) p131 q131
                        obtain rfl : ad127 = ad131 := (by injection e131)
                        replace p131 := eq_true p131
                        replace q131 := eq_true q131
                        go_wp2
                        repeat (go_quiet (fail); try go_wp2)
                        go_roundg k1
                        case measure => have := HK1.out; omega
                        case rel => exact ⟨(wrap64 (x3_1 + 1)), (by first | rfl | (simp; done) | (simp [*]; done)), H', ⟨by have := HK1.out; omega⟩, by repeat (first | exact Drawn0.refl _ | apply Drawn0.step)⟩
                    · rw [if_neg c10] at H
                      exact absurd H (by simp)
                  · rw [if_neg c9] at H
                    exact absurd H (by simp)
                · rw [if_neg c7] at H
                  have c7b0 : decide (0 < x3_1) = false := decide_eq_false c7
                  clear c7
                  have H' := Aside0.mk H
                  clear H
                  have p127 : 0 ≤ (x3_1 : Int) := of_decide_eq_true (by first | (with_reducible assumption) | assumption)
                  have q127 : x3_1 < (l0.length : Int) := of_decide_eq_true (by first | (with_reducible assumption) | assumption)
                  obtain ⟨ad127, e127, hx127_0, hx127_1⟩ := at_T67 HR0.out x3_1 p127 q127
                  cases e127
                  replace p127 := eq_true p127
                  replace q127 := eq_true q127
                  have p128 : 0 ≤ (x3_1 : Int) := of_decide_eq_true (by first | (with_reducible assumption) | assumption)
                  have q128 : x3_1 < (l0.length : Int) := of_decide_eq_true (by first | (with_reducible assumption) | assumption)
                  obtain ⟨ad128, e128, hx128_0, hx128_1⟩ := at_T67 HR0.out x3_1 p128 q128
                  obtain rfl : ad127 = ad128 := (by injection e128)
                  replace p128 := eq_true p128
                  replace q128 := eq_true q128
                  have p129 : 0 ≤ (x3_1 : Int) := of_decide_eq_true (by first | (with_reducible assumption) | assumption)
                  have q129 : x3_1 < (l0.length : Int) := of_decide_eq_true (by first | (with_reducible assumption) | assumption)
                  obtain ⟨ad129, e129, hx129_0, hx129_1⟩ := at_T67 HR0.out x3_1 p129 q129
                  obtain rfl : ad127 = ad129 := (by injection e129)
                  replace p129 := eq_true p129
                  replace q129 := eq_true q129
                  go_wp2
                  repeat (go_quiet (fail); try go_wp2)
                  go_roundg k1
                  case measure => have := HK1.out; omega
                  case rel => exact ⟨(wrap64 (x3_1 + 1)), (by first | rfl | (simp; done) | (simp [*]; done)), H', ⟨by have := HK1.out; omega⟩, by repeat (first | exact Drawn0.refl _ | apply Drawn0.step)⟩
        · rw [if_neg c3] at H
          exact absurd H (by simp)
      · rw [if_neg c2] at H
        have c2b0 : decide (x3_1 < (l0.length : Int)) = false := decide_eq_false c2
        clear c2
        obtain rfl := Option.some.inj H
        go_wp2
        repeat (go_quiet (fail); try go_wp2)
        go_ret
        exact ⟨by first | rfl | (simp; done) | (simp [*]; done), by repeat (first | exact Drawn0.refl _ | apply Drawn0.step)⟩
def varvelaw00_Buckets.f (l0 : List (S67)) : Option ((List (S67))) := if ([] : List (S67)).length + l0.length < 8796093022208 then (some (([] : List (S67)) ++ l0)) else (none)
set_option maxHeartbeats 8000000 in
set_option maxRecDepth 100000 in
theorem varvelaw00_Buckets.calls (A0 : Option Addr) (c0 : Nat) (l0 : List (S67)) (r : List (S67)) (w : World) (hr0 : Kd.C k67 w A0 l0.length l0) (hc0 : l0.length ≤ c0) (h : varvelaw00_Buckets.f l0 = some r) :
    Calls Try.prog 14 #[.slice A0 l0.length c0] w fun e w' => ∃ v0_ : Value, e = .returned (v0_) ∧ Kd.R k67 67 w' w.heap.size (fun _ => True) v0_ r ∧ Below w.heap.size w w' := by
  have HR0 := Aside0.mk hr0
  have HC0 := Aside0.mk hc0
  clear hr0 hc0
  have HB := Aside0.mk (Below.refl w.heap.size w)
  have H : (if ([] : List (S67)).length + l0.length < 8796093022208 then (some (([] : List (S67)) ++ l0)) else (none)) = some r := h
  clear h
  by_cases c2 : ([] : List (S67)).length + l0.length < 8796093022208
  · rw [if_pos c2] at H
    have LMc2 := Aside0.mk c2
    clear c2
    obtain ⟨y132, hy132⟩ : ∃ y_ : List (S67), y_ = (([] : List (S67)) ++ l0) := ⟨_, rfl⟩
    replace H : (some y132) = some r := by first | (rw [hy132]; with_reducible exact H) | (have H2_ := (Option.bind_some _ _).symm.trans H; rw [hy132]; with_reducible exact H2_) | (have H2_ := (Option.bind_some _ _).symm.trans H; with_reducible exact H2_) | with_reducible exact H | (rw [hy132]; exact H) | exact H
    have Ny132 := Aside0.mk hy132
    clear hy132
    obtain rfl := Option.some.inj H
    go_enter Try.func14, Try.ntmps14
    go_wp2_with (first | ((with_reducible refine gate_builtin (b := .append) (xs := #[.const (.slice none 0 0), .tmp 3]) rfl ?_); at_builtin; refine Kd.R_append_rows k67 (w0 := w) w.heap.size rfl (.const (.slice none 0 0)) (.tmp 3) 23 67 (.agg #[(.int .i64 0), (.int .u64 0)]) 16 rfl Try.underlying23 info67 rfl (by decide) (by omega) (.slice none 0 0) ([] : List (S67)) l0 _ _ _ (fun _ => True) (fun _ => False) rfl rfl ?aO ?aR (fun _ _ h => h) (fun _ h => h.elim) ?aF ?aB ?aS ?aL ?_; (case aR => repeat (first | exact HR0.out | (with_reducible refine Kd.C_alloc ?_ _) | (with_reducible refine Kd.C_drewN ?_ _) | (with_reducible refine Kd.C_drew ?_))); (case aB => exact (by repeat (first | (with_reducible first | exact HB.out | apply below_alloc | apply pw_below_drewN | apply below_drew1) | exact HB.out))); (case aF => exact (fun _ _ => trivial)); (case aO => exact ((Kd.R_nil _ _ _ _ (fun _ => True)))); (case aS => exact (below_size (by repeat (first | (with_reducible first | exact HB.out | apply below_alloc | apply pw_below_drewN | apply below_drew1) | exact HB.out)))); (case aL => have := LMc2.out; omega); intro v133 w3 ho hb hg hat; rw [← Ny132.out] at ho; have n0_ := Aside0.mk (hb); have n1_ := Aside0.mk (ho); clear HB; have HB := n0_; have HO134 := n1_; clear n0_ n1_; clear ho hb hg hat))
    go_ret
    exact ⟨_, by first | rfl | (simp [errW_none, errW_some] <;> rfl) | (simp [*, errW_none, errW_some] <;> rfl), by (with_reducible repeat (first | apply Kd.R_alloc | apply Kd.R_drewN | apply Kd.R_drew)); exact HO134.out, by repeat (first | (with_reducible first | exact HB.out | apply below_alloc | apply pw_below_drewN | apply below_drew1) | exact HB.out)⟩
  · rw [if_neg c2] at H
    exact absurd H (by simp)
def varvelaw00_SameBuckets.l0 : Nat → List (S67) → List (S67) → Int → Option (Bool)
  | 0, _, _, _ => none
  | k + 1, x0, x1, x5 => if x5 < (x0.length : Int) then (if 0 ≤ x5 then (if x5 < (x1.length : Int) then (if (!(((rd_T67 x0 x5).f0) == ((rd_T67 x1 x5).f0)) || (!(((rd_T67 x0 x5).f1) == ((rd_T67 x1 x5).f1)))) = true then (some false) else (varvelaw00_SameBuckets.l0 k x0 x1 (wrap64 (x5 + 1)))) else (none)) else (none)) else (some true)
def varvelaw00_SameBuckets.f (k : Nat) (l0 : List (S67)) (l1 : List (S67)) : Option (Bool) := if (l0.length : Int) = (l1.length : Int) then (varvelaw00_SameBuckets.l0 k l0 l1 0) else (some false)
theorem varvelaw00_SameBuckets.mono_l : ∀ k, (∀ y0 y1 y2, LeO (varvelaw00_SameBuckets.l0 k y0 y1 y2) (varvelaw00_SameBuckets.l0 (k + 1) y0 y1 y2))
  | 0 => fun _ _ _ r h => by simp [varvelaw00_SameBuckets.l0] at h
  | k + 1 => by
    have ih0 := varvelaw00_SameBuckets.mono_l k
    · intro y0 y1 y2
      unfold varvelaw00_SameBuckets.l0
      repeat' first
      | (with_reducible exact ih0 _ _ _)
      | (with_reducible exact LeO.refl _)
      | (with_reducible exact LeO.none _)
      | (with_reducible refine LeO.ite ?_ ?_)
      | (with_reducible refine LeO.bind ?_ (fun _ => ?_))
      | exact ih0 _ _ _
      | exact LeO.none _
      | refine LeO.ite ?_ ?_
      | refine LeO.bind ?_ (fun _ => ?_)
theorem varvelaw00_SameBuckets.mono : ∀ a0 a1 k, LeO (varvelaw00_SameBuckets.f k a0 a1) (varvelaw00_SameBuckets.f (k + 1) a0 a1) := by
  intro a0 a1 k
  have ih0 := varvelaw00_SameBuckets.mono_l k
  unfold varvelaw00_SameBuckets.f
  repeat' first
      | (with_reducible exact ih0 _ _ _)
      | (with_reducible exact LeO.refl _)
      | (with_reducible exact LeO.none _)
      | (with_reducible refine LeO.ite ?_ ?_)
      | (with_reducible refine LeO.bind ?_ (fun _ => ?_))
      | exact ih0 _ _ _
      | exact LeO.none _
      | refine LeO.ite ?_ ?_
      | refine LeO.bind ?_ (fun _ => ?_)
set_option maxHeartbeats 8000000 in
set_option maxRecDepth 100000 in
theorem varvelaw00_SameBuckets.calls (k : Nat) (A0 : Option Addr) (c0 : Nat) (l0 : List (S67)) (A1 : Option Addr) (c1 : Nat) (l1 : List (S67)) (r : Bool) (w : World) (hr0 : Kd.C k67 w A0 l0.length l0) (hc0 : l0.length ≤ c0) (hr1 : Kd.C k67 w A1 l1.length l1) (hc1 : l1.length ≤ c1) (h : varvelaw00_SameBuckets.f k l0 l1 = some r) :
    Calls Try.prog 12 #[.slice A0 l0.length c0, .slice A1 l1.length c1] w fun e w' => e = .returned (.bool r) ∧ Drawn0 w w' := by
  have hu67 := Try.underlying67
  have HR0 := Aside0.mk hr0
  have HC0 := Aside0.mk hc0
  clear hr0 hc0
  have HR1 := Aside0.mk hr1
  have HC1 := Aside0.mk hc1
  clear hr1 hc1
  have H : (if (l0.length : Int) = (l1.length : Int) then (varvelaw00_SameBuckets.l0 k l0 l1 0) else (some false)) = some r := h
  clear h
  by_cases c3 : (l0.length : Int) = (l1.length : Int)
  · rw [if_pos c3] at H
    have c3b0 : ((l0.length : Int) == (l1.length : Int)) = true := beq_iff_eq.mpr c3
    have c3b1 : ((l0.length : Int) != (l1.length : Int)) = false := bne_eq_false_iff_eq.mpr c3
    have c3b2 : (l0.length == l1.length) = true := by first | simpa using c3 | (simp at c3 ⊢; omega)
    clear c3
    have H' := Aside0.mk H
    clear H
    go_enter Try.func12, Try.ntmps12
    go_wp2
    repeat (go_quiet (fail); try go_wp2)
    go_loopg [5] k (fun kq v5 w' => ∃ (x5_1 : Int), v5 = .int .i64 x5_1 ∧ Aside0 (varvelaw00_SameBuckets.l0 kq l0 l1 x5_1 = some r) ∧ Aside0 (kq ≤ k) ∧ Drawn0 w w')
    case atStart => exact ⟨(0), (by first | rfl | (simp; done) | (simp [*]; done)), H', ⟨Nat.le_refl _⟩, by repeat (first | exact Drawn0.refl _ | apply Drawn0.step)⟩
    case round =>
      clear H'
      try clear c1
      try clear p2
      try clear c3
      try clear c3b0
      try clear c3b1
      try clear c3b2
      obtain ⟨x5_1, rfl, HA, HK1, ⟨m1, rfl⟩⟩ := hrel
      cases gk with
      | zero => exact absurd HA.out (by simp [varvelaw00_SameBuckets.l0])
      | succ k1 =>
        have H := HA.out
        clear HA
        simp only [varvelaw00_SameBuckets.l0] at H
        by_cases c4 : x5_1 < (l0.length : Int)
        · rw [if_pos c4] at H
          have c4b0 : decide (x5_1 < (l0.length : Int)) = true := decide_eq_true c4
          clear c4
          by_cases c5 : 0 ≤ x5_1
          · rw [if_pos c5] at H
            have c5b0 : decide (0 ≤ x5_1) = true := decide_eq_true c5
            clear c5
            by_cases c6 : x5_1 < (l1.length : Int)
            · rw [if_pos c6] at H
              have c6b0 : decide (x5_1 < (l1.length : Int)) = true := decide_eq_true c6
              clear c6
              by_cases c7 : (!(((rd_T67 l0 x5_1).f0) == ((rd_T67 l1 x5_1).f0)) || (!(((rd_T67 l0 x5_1).f1) == ((rd_T67 l1 x5_1).f1)))) = true
              · rw [if_pos c7] at H
                have c7b0 : (!(((rd_T67 l0 x5_1).f0) == ((rd_T67 l1 x5_1).f0)) || (!(((rd_T67 l0 x5_1).f1) == ((rd_T67 l1 x5_1).f1)))) = true := c7
                clear c7
                obtain rfl := Option.some.inj H
                have p135 : 0 ≤ (x5_1 : Int) := of_decide_eq_true (by first | (with_reducible assumption) | assumption)
                have q135 : x5_1 < (l0.length : Int) := of_decide_eq_true (by first | (with_reducible assumption) | assumption)
                obtain ⟨ad135, e135, hx135_0, hx135_1⟩ := at_T67 HR0.out x5_1 p135 q135
                cases e135
                replace p135 := eq_true p135
                replace q135 := eq_true q135
                have p136 : 0 ≤ (x5_1 : Int) := of_decide_eq_true (by first | (with_reducible assumption) | assumption)
                have q136 : x5_1 < (l1.length : Int) := of_decide_eq_true (by first | (with_reducible assumption) | assumption)
                obtain ⟨ad136, e136, hx136_0, hx136_1⟩ := at_T67 HR1.out x5_1 p136 q136
                cases e136
                replace p136 := eq_true p136
                replace q136 := eq_true q136
                go_wp2
                repeat (go_quiet (fail); try go_wp2)
                go_ret
                exact ⟨by first | rfl | (simp; done) | (simp [*]; done), by repeat (first | exact Drawn0.refl _ | apply Drawn0.step)⟩
              · rw [if_neg c7] at H
                have c7b0 : (!(((rd_T67 l0 x5_1).f0) == ((rd_T67 l1 x5_1).f0)) || (!(((rd_T67 l0 x5_1).f1) == ((rd_T67 l1 x5_1).f1)))) = false := by simpa using c7
                clear c7
                have H' := Aside0.mk H
                clear H
                have p135 : 0 ≤ (x5_1 : Int) := of_decide_eq_true (by first | (with_reducible assumption) | assumption)
                have q135 : x5_1 < (l0.length : Int) := of_decide_eq_true (by first | (with_reducible assumption) | assumption)
                obtain ⟨ad135, e135, hx135_0, hx135_1⟩ := at_T67 HR0.out x5_1 p135 q135
                cases e135
                replace p135 := eq_true p135
                replace q135 := eq_true q135
                have p136 : 0 ≤ (x5_1 : Int) := of_decide_eq_true (by first | (with_reducible assumption) | assumption)
                have q136 : x5_1 < (l1.length : Int) := of_decide_eq_true (by first | (with_reducible assumption) | assumption)
                obtain ⟨ad136, e136, hx136_0, hx136_1⟩ := at_T67 HR1.out x5_1 p136 q136
                cases e136
                replace p136 := eq_true p136
                replace q136 := eq_true q136
                go_wp2
                repeat (go_quiet (fail); try go_wp2)
                go_roundg k1
                case measure => have := HK1.out; omega
                case rel => exact ⟨(wrap64 (x5_1 + 1)), (by first | rfl | (simp; done) | (simp [*]; done)), H', ⟨by have := HK1.out; omega⟩, by repeat (first | exact Drawn0.refl _ | apply Drawn0.step)⟩
            · rw [if_neg c6] at H
              exact absurd H (by simp)
          · rw [if_neg c5] at H
            exact absurd H (by simp)
        · rw [if_neg c4] at H
          have c4b0 : decide (x5_1 < (l0.length : Int)) = false := decide_eq_false c4
          clear c4
          obtain rfl := Option.some.inj H
          go_wp2
          repeat (go_quiet (fail); try go_wp2)
          go_ret
          exact ⟨by first | rfl | (simp; done) | (simp [*]; done), by repeat (first | exact Drawn0.refl _ | apply Drawn0.step)⟩
  · rw [if_neg c3] at H
    have c3b0 : ((l0.length : Int) == (l1.length : Int)) = false := beq_eq_false_iff_ne.mpr c3
    have c3b1 : ((l0.length : Int) != (l1.length : Int)) = true := bne_iff_ne.mpr c3
    have c3b2 : (l0.length == l1.length) = false := by first | simpa using c3 | (simp at c3 ⊢; omega)
    obtain rfl := Option.some.inj H
    go_enter Try.func12, Try.ntmps12
    go_wp2
    repeat (go_quiet (fail); try go_wp2)
    go_ret
    exact ⟨by first | rfl | (simp; done) | (simp [*]; done), by repeat (first | exact Drawn0.refl _ | apply Drawn0.step)⟩
end Go.Proofs.Ytofgcacahfdjdaa.Hi
namespace Go.Proofs.Ytofgcacahfdjdaa.Pure
set_option linter.unusedVariables false
set_option linter.unusedSimpArgs false
open Go.RowKit Go.Proofs.Ytofgcacahfdjdaa.Hi Go.Proofs.YtofgcacahfdjdaaW.PrintWords Go.Proofs.YtofgcacahfdjdaaW.PrintLast Go.Proofs.YtofgcacahfdjdaaW.PrintMore
set_option maxRecDepth 100000 in
theorem awake_true : varvelaw07_awake.f = some true := by kernel_rfl
theorem w64 {n : Int} (h0 : -9223372036854775808 ≤ n) (h1 : n < 9223372036854775808) : wrap64 n = n := by unfold wrap64; omega
end Go.Proofs.Ytofgcacahfdjdaa.Pure
namespace Go.Proofs.Ytofgcacahfdjdaa.Pure
set_option linter.unusedVariables false
set_option linter.unusedSimpArgs false
open Go.RowKit Go.Proofs.Ytofgcacahfdjdaa.Hi
end Go.Proofs.Ytofgcacahfdjdaa.Pure
namespace Go.Proofs.Ytofgcacahfdjdaa.Pure
set_option linter.unusedVariables false
set_option linter.unusedSimpArgs false
open Go.RowKit Go.Proofs.Ytofgcacahfdjdaa.Hi
/-- How a list of buckets is read. -/
def WB (l : List S67) : Prop := l.length * 16 ≤ 140737488351232 ∧ l.length ≤ 9223372036854775807 ∧ ∀ b ∈ l, (Lit.int .i64 b.f0).wf = true ∧ (Lit.int .u64 b.f1).wf = true
theorem WB.len {l : List S67} (h : WB l) : l.length < 8796093022208 := by have := h.1; omega
theorem rd_drop {l : List S67} {n : Nat} (h : n < l.length) : l.drop n = rd_T67 l (n : Int) :: l.drop (n + 1) := by
  rw [List.drop_eq_getElem_cons h]
  congr 1
  rw [rd_T67, Int.toNat_natCast, List.getD, List.getElem?_eq_getElem h]; rfl
/-- May a list be behind a bucket? -/
def chkFrom (last : Int) : List S67 → Bool
  | [] => true
  | b :: r => decide (last < b.f0) && (decide (b.f0 < 7424) && (!(b.f1 == 0) && chkFrom b.f0 r))
def chk (l : List S67) : Bool := chkFrom (-1) l
theorem check_l0 (l : List S67) (hl : l.length < 8796093022208) : ∀ (d n k : Nat) (last : Int), n + d = l.length → d < k → hist_Check.l0 k last l (l.length : Int) (n : Int) = some (chkFrom last (l.drop n)) := by
  intro d
  induction d with
  | zero =>
    intro n k last hn hk
    obtain ⟨k, rfl⟩ : ∃ m, k = m + 1 := ⟨k - 1, by omega⟩
    simp only [hist_Check.l0]
    rw [if_neg (by omega), List.drop_of_length_le (by omega)]; rfl
  | succ d ih =>
    intro n k last hn hk
    obtain ⟨k, rfl⟩ : ∃ m, k = m + 1 := ⟨k - 1, by omega⟩
    simp only [hist_Check.l0]
    rw [if_pos (by omega), if_pos (by omega), if_pos (by omega), rd_drop (show n < l.length by omega), w64 (n := (n : Int) + 1) (by omega) (by omega)]
    have := ih (n + 1) k ((rd_T67 l (n : Int)).f0) (by omega) (by omega)
    rw [show (n : Int) + 1 = ((n + 1 : Nat) : Int) by omega, this]
    simp only [chkFrom]
    generalize rd_T67 l (n : Int) = b
    by_cases c1 : b.f0 ≤ last
    · rw [if_pos c1, decide_eq_false (by omega)]; rfl
    · rw [if_neg c1, decide_eq_true (by omega)]
      by_cases c2 : b.f0 ≥ 7424
      · rw [if_pos c2, decide_eq_false (by omega)]; rfl
      · rw [if_neg c2, decide_eq_true (by omega)]
        by_cases c3 : b.f1 = 0
        · rw [if_pos c3, c3]; rfl
        · rw [if_neg c3, beq_eq_false_iff_ne.mpr c3]; rfl
theorem Check_eq (l : List S67) (hl : l.length < 8796093022208) (k : Nat) (hk : l.length < k) : hist_Check.f k l = some (chk l) := by
  unfold hist_Check.f chk
  have := check_l0 l hl l.length 0 k (-1) (by omega) hk
  simpa using this
/-- The bucket before a place. -/
def before (l : List S67) (n : Nat) : Int := if n = 0 then -1 else (rd_T67 l ((n - 1 : Nat) : Int)).f0
theorem refCheck_l0 (l : List S67) (hl : l.length < 8796093022208) : ∀ (d n k : Nat), n + d = l.length → d < k → -1 ≤ before l n → varveref07_Check.l0 k l (n : Int) = some (chkFrom (before l n) (l.drop n)) := by
  intro d
  induction d with
  | zero =>
    intro n k hn hk _
    obtain ⟨k, rfl⟩ : ∃ m, k = m + 1 := ⟨k - 1, by omega⟩
    simp only [varveref07_Check.l0]
    rw [if_neg (by omega), List.drop_of_length_le (by omega)]; rfl
  | succ d ih =>
    intro n k hn hk hb
    obtain ⟨k, rfl⟩ : ∃ m, k = m + 1 := ⟨k - 1, by omega⟩
    simp only [varveref07_Check.l0]
    rw [if_pos (by omega), if_pos (by omega), rd_drop (show n < l.length by omega), w64 (n := (n : Int) + 1) (by omega) (by omega), w64 (n := (n : Int) - 1) (by omega) (by omega)]
    have hnx : before l (n + 1) = (rd_T67 l (n : Int)).f0 := by unfold before; rw [if_neg (by omega), Nat.add_sub_cancel]
    have IH := ih (n + 1) k (by omega) (by omega)
    rw [hnx] at IH
    rw [show (n : Int) + 1 = ((n + 1 : Nat) : Int) by omega]
    have hbe : (n : Int) > 0 → (rd_T67 l ((n : Int) - 1)).f0 = before l n := fun h => by
      unfold before; rw [if_neg (by omega), show ((n - 1 : Nat) : Int) = (n : Int) - 1 by omega]
    have hb0 : ¬ (n : Int) > 0 → before l n = -1 := fun h => by unfold before; rw [if_pos (by omega)]
    simp only [chkFrom]
    generalize rd_T67 l (n : Int) = b at *
    generalize before l n = p at *
    by_cases c1 : b.f0 < 0
    · rw [if_pos c1, decide_eq_false (by omega)]; rfl
    · rw [if_neg c1]
      by_cases c2 : b.f0 ≥ 7424
      · rw [if_pos c2, decide_eq_false (p := b.f0 < 7424) (by omega)]; simp
      · rw [if_neg c2, decide_eq_true (p := b.f0 < 7424) (by omega)]
        by_cases c3 : b.f1 = 0
        · rw [if_pos c3, c3]; simp
        · rw [if_neg c3, beq_eq_false_iff_ne.mpr c3, IH (by omega)]
          by_cases c4 : (n : Int) > 0
          · rw [if_pos c4, if_pos (by omega), if_pos (by omega), hbe c4]
            by_cases c5 : b.f0 ≤ p
            · rw [if_pos c5, decide_eq_false (by omega)]; rfl
            · rw [if_neg c5, decide_eq_true (by omega)]; rfl
          · rw [if_neg c4, hb0 c4, decide_eq_true (by omega)]; rfl
theorem refCheck_eq (l : List S67) (hl : l.length < 8796093022208) (k : Nat) (hk : l.length < k) : varveref07_Check.f k l = some (chk l) := by
  unfold varveref07_Check.f chk
  have := refCheck_l0 l hl l.length 0 k (by omega) hk (by simp [before])
  simpa [before] using this
theorem same_l0 (l : List S67) (hl : l.length < 8796093022208) : ∀ (d n k : Nat), n + d = l.length → d < k → varvelaw00_SameBuckets.l0 k l l (n : Int) = some true := by
  intro d
  induction d with
  | zero =>
    intro n k hn hk
    obtain ⟨k, rfl⟩ : ∃ m, k = m + 1 := ⟨k - 1, by omega⟩
    simp only [varvelaw00_SameBuckets.l0]
    rw [if_neg (by omega)]
  | succ d ih =>
    intro n k hn hk
    obtain ⟨k, rfl⟩ : ∃ m, k = m + 1 := ⟨k - 1, by omega⟩
    simp only [varvelaw00_SameBuckets.l0]
    rw [if_pos (by omega), if_pos (by omega), if_pos (by omega), w64 (n := (n : Int) + 1) (by omega) (by omega), show (n : Int) + 1 = ((n + 1 : Nat) : Int) by omega, ih (n + 1) k (by omega) (by omega)]
    simp
theorem Same_self (l : List S67) (hl : l.length < 8796093022208) (k : Nat) (hk : l.length < k) : varvelaw00_SameBuckets.f k l l = some true := by
  unfold varvelaw00_SameBuckets.f
  rw [if_pos rfl]
  exact same_l0 l hl l.length 0 k (by omega) hk
theorem Copy_eq (l : List S67) (hl : l.length < 8796093022208) : varvelaw00_Buckets.f l = some l := by
  unfold varvelaw00_Buckets.f
  rw [if_pos (by simpa using hl)]; simp
end Go.Proofs.Ytofgcacahfdjdaa.Pure
namespace Go.Proofs.Ytofgcacahfdjdaa
set_option linter.unusedVariables false
set_option linter.unusedSimpArgs false
open Go.RowKit Go.Proofs.YtofgcacahfdjdaaW.PrintWords Go.Proofs.YtofgcacahfdjdaaW.PrintLast Go.Proofs.YtofgcacahfdjdaaW.PrintMore
/-- A number's bytes. -/
def encN (n : Nat) : List Int := if n < 128 then [(n : Int)] else ((n % 128 + 128 : Nat) : Int) :: encN (n / 128)
termination_by n
decreasing_by omega
theorem encN_low {n : Nat} (h : n < 128) : encN n = [(n : Int)] := by rw [encN, if_pos h]
theorem encN_high {n : Nat} (h : ¬ n < 128) : encN n = ((n % 128 + 128 : Nat) : Int) :: encN (n / 128) := by rw [encN, if_neg h]
/-- A slice of bytes behind which may be put: the call's own row, or one without room behind it. -/
def App (W : World) (base : Nat) (v : Value) (xs : List Int) : Prop :=
  Kd.R (Kd.int .u8) 5 W base (fun _ => True) v xs ∨ ∃ A n, v = .slice A n n ∧ (A = none → n = 0) ∧ Kd.C (Kd.int .u8) W A n xs
theorem App.below {W W' : World} {base : Nat} {v : Value} {xs : List Int} (h : App W base v xs) (hb : Below W.heap.size W W') : App W' base v xs := by
  rcases h with h | ⟨A, n, e, hn, hC⟩
  · exact .inl (Kd.R_below h hb)
  · exact .inr ⟨A, n, e, hn, Kd.C_below hC hb⟩
theorem App.len {W : World} {base : Nat} {v : Value} {xs : List Int} (h : App W base v xs) : ∃ A c, v = .slice A xs.length c := by
  rcases h with h | ⟨A, n, e, _, hC⟩
  · obtain ⟨A, c, e, _⟩ := Kd.R_reads h; exact ⟨A, c, e⟩
  · exact ⟨A, n, by rw [e, hC.1]⟩
theorem info8 : (Try.prog.info? 5).map (fun i => (i.zero, i.size, i.bytes)) = some (some (.int .u8 0), 1, 1) := by kernel_rfl
set_option maxRecDepth 100000 in
/-- append(v, x...): behind such a slice. -/
theorem App.append {ops : Array Oper} {rest : List Oper} {o : Oper} {a : Act} {Q : Exit → Act → World → Prop} {w0 W : World} (base : Nat) (hgd : o.guard = none) (s x : Operand)
    (ho : o.op = .call { callee := .builtin .append, args := #[s, x], argTypes := #[22, 22] }) (v : Value) (xs ys : List Int) (A : Option Addr) (m c : Nat) (hs : a.eval s = v) (hx : a.eval x = .slice A m c)
    (HA : App W base v xs) (HR : Kd.C (Kd.int .u8) W A m ys) (hm : 0 < m) (HB : Below base w0 W) (hbase : base ≤ W.heap.size) (hl : xs.length + m ≤ 140737488355328)
    (h : ∀ v1 w1, Kd.R (Kd.int .u8) 5 w1 base (fun _ => True) v1 (xs ++ ys) → Below base w0 w1 → W.heap.size ≤ w1.heap.size → wpList Try.prog ops Q rest (a.put o.dst v1) w1) : wpList Try.prog ops Q (o :: rest) a W := by
  rcases HA with HO | ⟨B, n, rfl, hn, hC⟩
  · exact Kd.R_append_row (w0 := w0) (Value.int .u8) (0 : Int) base hgd s x 22 5 (.int .u8 0) 1 ho Try.underlying22 info8 rfl (by decide) v xs ys A m c (fun _ => True) hs hx (fun _ _ => trivial) HO HR HB hbase (by omega) (fun v1 w1 h1 h2 h3 _ => h v1 w1 h1 h2 h3.size)
  · obtain ⟨i0, hi, hzz⟩ := Option.map_eq_some_iff.1 info8
    simp only [Prod.mk.injEq] at hzz
    obtain ⟨hz0, hz1, hz2⟩ := hzz
    have hxs := hC.1
    have hys := HR.1
    obtain ⟨ad, rfl, hcell⟩ := (Kd.reads_of_C (d := (0 : Int)) HR).2.2 hm
    have hM : maxLen = 9223372036854775807 := rfl
    refine wpList_append_grows W hgd s x 22 ho 5 i0 (.int .u8 0) 1 1 Try.underlying22 hi hz0 hz1 hz2 rfl (by decide) B n n (nums .u8 xs) hs (fun e => ⟨hn e, hn e⟩) (by rw [nums, List.length_map]; omega) (fun b hb j u hu => ?_) ad m c (nums .u8 ys) hx (by rw [nums, List.length_map]; omega) (fun j u hu => ?_) (fun u hu => ?_) (by omega) (by omega) (by omega) (fun v' w' h1 h2 => ?_)
    · have hj : j < xs.length := by
        rcases Nat.lt_or_ge j xs.length with q | q
        · exact q
        · rw [List.getElem?_eq_none (by simpa [nums] using q)] at hu; cases hu
      obtain ⟨b', eb, hc⟩ := (Kd.reads_of_C (d := (0 : Int)) hC).2.2 (by omega)
      rw [hb] at eb
      injection eb with eb
      subst eb
      rw [hc j (by omega)]
      simp [nums, List.getElem?_map, List.getElem?_eq_getElem hj] at hu
      subst hu
      simp [List.getD, List.getElem?_eq_getElem hj]
    · have hj : j < ys.length := by
        rcases Nat.lt_or_ge j ys.length with q | q
        · exact q
        · rw [List.getElem?_eq_none (by simpa [nums] using q)] at hu; cases hu
      rw [hcell j (by omega)]
      simp [nums, List.getElem?_map, List.getElem?_eq_getElem hj] at hu
      subst hu
      simp [List.getD, List.getElem?_eq_getElem hj]
    · simp only [nums, List.mem_map] at hu
      obtain ⟨q, _, rfl⟩ := hu
      rfl
    · have e : nums .u8 xs ++ nums .u8 ys = encs (Value.int .u8) (xs ++ ys) := by simp [nums, encs]
      have hB : Below base w0 w' := HB.trans ⟨h2.os, h2.tape, h2.output, h2.size, fun k hk => h2.block k (by omega) (by simp)⟩
      rw [e] at h1
      have h3 : w'.ownsRow W.heap.size 5 1 v' (xs ++ ys).length (encs (Value.int .u8) (xs ++ ys)) := by rw [List.length_append, hxs, hys]; exact h1
      exact h v' w' (Kd.R_lower (Kd.R_of_own h3 (fun _ _ => trivial)) hbase) hB h2.size
theorem or128 (m : Nat) : bits .or .u8 ((m : Int) % 256) 128 = ((m % 128 + 128 : Nat) : Int) := by
  have h : ∀ x : Fin 256, bits .or .u8 ((x.val : Nat) : Int) 128 = ((x.val % 128 + 128 : Nat) : Int) := by decide +kernel
  have e := h ⟨m % 256, by omega⟩
  simp only at e
  rw [show ((m : Int) % 256) = ((m % 256 : Nat) : Int) by omega, e]
  omega
theorem C_one (w : World) (x : Int) : Kd.C (Kd.int .u8) (w.alloc (.cells #[.int .u8 x] 5)) (some ⟨w.heap.size, 0, none⟩) 1 [x] := by
  refine ⟨rfl, by decide, fun _ => ⟨_, rfl, fun j p hp => ?_⟩⟩
  cases j with
  | succ j => simp at hp
  | zero =>
    obtain rfl : x = p := by simpa using hp
    refine ⟨_, rfl, rfl, fun i u hu => ?_⟩
    cases i with
    | succ i => simp at hu
    | zero =>
      obtain rfl : Value.int .u8 x = u := by simpa using hu
      have h := blk_cell (blk_new w (.cells #[.int .u8 x] 5)) 0
      have e : (⟨w.heap.size, 0, none⟩ : Addr).add (0 * (Kd.int .u8).sz + 0) = ⟨w.heap.size, 0, none⟩ := rfl
      rw [e, h]; rfl
theorem encN_len (n : Nat) (h : n < 18446744073709551616) : (encN n).length ≤ 10 := by
  have key : ∀ (k n : Nat), n < 128 ^ (k + 1) → (encN n).length ≤ k + 1 := by
    intro k
    induction k with
    | zero => intro n hn; rw [encN_low (by omega)]; simp
    | succ k ih =>
      intro n hn
      by_cases c : n < 128
      · rw [encN_low c]; simp
      · rw [encN_high c, List.length_cons]
        have := ih (n / 128) (by rw [Nat.div_lt_iff_lt_mul (by decide)]; rw [Nat.pow_succ] at hn; exact hn)
        omega
  exact key 9 n (Nat.lt_of_lt_of_le h (by decide))
theorem encN_pos (n : Nat) : 0 < (encN n).length := by
  by_cases c : n < 128
  · rw [encN_low c]; simp
  · rw [encN_high c]; simp
set_option maxHeartbeats 4000000 in
set_option maxRecDepth 100000 in
theorem put_any {w0 w : World} {base : Nat} {b : Value} {xs : List Int} (n : Nat) (hn : n < 18446744073709551616) (HA : App w base b xs) (HB : Below base w0 w) (hb : base ≤ w.heap.size) (hl : xs.length + 20 ≤ 140737488355328) :
    Calls Try.prog 70 #[b, .int .u64 (n : Int)] w fun e w' => ∃ r, e = .returned r ∧ Kd.R (Kd.int .u8) 5 w' base (fun _ => True) r (xs ++ encN n) ∧ Below base w0 w' ∧ w.heap.size ≤ w'.heap.size := by
  have hlen := encN_len n hn
  have HAh := Lib.hid HA; have HBh := Lib.hid HB; have HSh := Lib.hid hb; have HL := Lib.hid hl; have HN := Lib.hid hn; have HEL := Lib.hid hlen
  clear HA HB hb hl hn hlen
  go_enter Try.func70, Try.ntmps70
  go_wp2
  go_loopw [0, 1] (fun v0 v1 wr => ∃ (m : Nat) (ys : List Int), v1 = .int .u64 (m : Int) ∧ m ≤ n ∧ App wr base v0 (xs ++ ys) ∧ ys ++ encN m = encN n ∧ Below base w0 wr ∧ w.heap.size ≤ wr.heap.size) (fun _ v1 _ => (intOf v1).toNat)
  case atStart => exact ⟨n, [], rfl, Nat.le_refl _, by rw [List.append_nil]; exact HAh.out, rfl, HBh.out, Nat.le_refl _⟩
  case round =>
    obtain ⟨m, ys, rfl, hm, hA, he, hB, hz⟩ := hrel
    have hyl : ys.length ≤ 10 := by
      have e := congrArg List.length he
      rw [List.length_append] at e
      have := HEL.out
      omega
    have hmb : m < 18446744073709551616 := by have := HN.out; omega
    have HM := Lib.hid hm; have HA := Lib.hid hA; have HE := Lib.hid he; have HB := Lib.hid hB; have HZ := Lib.hid hz; have HY := Lib.hid (show (xs ++ ys).length + 1 ≤ 140737488355328 by have := HL.out; rw [List.length_append]; omega)
    have HMB := Lib.hid hmb
    clear hA he hB hz hyl HAh HBh hm hmb
    by_cases c : 128 ≤ m
    · have c1 : decide ((128 : Int) ≤ (m : Int)) = true := decide_eq_true (by omega)
      have c2 : decide (128 ≤ m) = true := decide_eq_true c
      have HC := Lib.hid c
      clear c
      go_wp2_with ((with_reducible refine gate_builtin (b := .append) (xs := #[.tmp 7, .tmp 11]) rfl ?_); at_builtin; refine App.append (w0 := w0) base rfl (.tmp 7) (.tmp 11) rfl u0 (xs ++ ys) [bits .or .u8 ((m : Int) % 256) 128] (some ⟨wr.heap.size, 0, none⟩) 1 1 rfl rfl ?aA ?aR (by decide) ?aB ?aS ?aL ?_; (case aA => exact HA.out.below (below_alloc (Below.refl _ _) _)); (case aR => exact C_one wr _); (case aB => exact HB.out.alloc (by have := HZ.out; have := HSh.out; omega) _); (case aS => have := HZ.out; have := HSh.out; simp; omega); (case aL => exact HY.out); intro v_ w_ ho hb hs; rw [or128] at ho; have HO := Lib.hid ho; have HB2 := Lib.hid hb; have HS2 := Lib.hid hs; clear ho hb hs)
      go_roundw
      case rel => exact ⟨m / 128, ys ++ [((m % 128 + 128 : Nat) : Int)], by rw [Int.natCast_ediv]; rfl, by have := HM.out; omega, .inl (by rw [← List.append_assoc]; exact HO.out), by rw [List.append_assoc, ← HE.out, encN_high (n := m) (by have := HC.out; omega)]; rfl, HB2.out, by have := HZ.out; have := HS2.out; simp at this; omega⟩
      case measure => have := HC.out; simp [intOf]; omega
    · have c1 : decide ((128 : Int) ≤ (m : Int)) = false := decide_eq_false (by omega)
      have c2 : decide (128 ≤ m) = false := decide_eq_false c
      have e := encN_low (n := m) (by omega)
      have h256 : ((m : Int) % 256) = m := by omega
      rw [e] at HE
      clear c e
      go_wp2_with ((with_reducible refine gate_builtin (b := .append) (xs := #[.tmp 15, .tmp 18]) rfl ?_); at_builtin; refine App.append (w0 := w0) base rfl (.tmp 15) (.tmp 18) rfl u0 (xs ++ ys) [(m : Int)] (some ⟨wr.heap.size, 0, none⟩) 1 1 rfl rfl ?aA ?aR (by decide) ?aB ?aS ?aL ?_; (case aA => exact HA.out.below (below_alloc (Below.refl _ _) _)); (case aR => exact C_one wr _); (case aB => exact HB.out.alloc (by have := HZ.out; have := HSh.out; omega) _); (case aS => have := HZ.out; have := HSh.out; simp; omega); (case aL => exact HY.out); intro v_ w_ ho hb hs; rw [List.append_assoc, HE.out] at ho; have HO := Lib.hid ho; have HB2 := Lib.hid hb; have HS2 := Lib.hid hs; clear ho hb hs)
      go_ret
      exact ⟨_, rfl, HO.out, HB2.out, by have := HZ.out; have := HS2.out; simp at this; omega⟩
theorem cut_own {A : Option Addr} {c n : Nat} (hc : n ≤ c) (W : World) : (Instr.slice 22 (.slice A n c) none (some (.int .i64 (n : Int))) (some (.int .i64 (n : Int)))).run Try.prog W = .ok (.slice A n n) W := by
  obtain ⟨i, hi, hzz⟩ := Option.map_eq_some_iff.1 info8
  simp only [Prod.mk.injEq] at hzz
  have hel : Try.prog.elem 22 = 5 := by simp [Program.elem, Try.underlying22]
  have hu : Try.prog.underlying 22 = some (.slice (Try.prog.elem 22)) := by rw [hel]; exact Try.underlying22
  have ha : (A.map fun x => x.add 0) = A := by cases A <;> simp [Addr.add]
  rw [run_slice_hm W 22 A n c hu .i64 .i64 (n : Int) (n : Int) (by omega) (by omega) (by omega), hel]
  simp [sizeOf, typeInfo, hi, hzz.2.1, sliced, Result.andThen, ha]
theorem own_any (A : Option Addr) (n c : Nat) (w : World) (hc : n ≤ c) : Calls Try.prog 87 #[.slice A n c] w fun e w' => e = .returned (.slice A n n) ∧ w = w' := by
  have hcut := cut_own (A := A) hc
  go_enter Try.func87, Try.ntmps87
  go_wp2
  go_ret
  exact ⟨rfl, rfl⟩
theorem App.cap {W : World} {base : Nat} {A : Option Addr} {xs : List Int} (h : Kd.C (Kd.int .u8) W A xs.length xs) : App W base (.slice A xs.length xs.length) xs := by
  refine .inr ⟨A, xs.length, rfl, fun e => ?_, h⟩
  rcases Nat.eq_zero_or_pos xs.length with z | z
  · exact z
  · obtain ⟨ad, e', _⟩ := h.2.2 z
    rw [e] at e'
    cases e'
theorem Put_any {A : Option Addr} {c : Nat} {xs : List Int} {w : World} (n : Nat) (hn : n < 18446744073709551616) (hC : Kd.C (Kd.int .u8) w A xs.length xs) (hc : xs.length ≤ c) (hl : xs.length + 20 ≤ 140737488355328) :
    Calls Try.prog 69 #[.slice A xs.length c, .int .u64 (n : Int)] w fun e w' => ∃ r, e = .returned r ∧ Kd.R (Kd.int .u8) 5 w' w.heap.size (fun _ => True) r (xs ++ encN n) ∧ Below w.heap.size w w' := by
  have HP := put_any (w0 := w) (base := w.heap.size) (w := w) n hn (App.cap hC) (Below.refl _ _) (Nat.le_refl _) hl
  have HO := own_any A xs.length c w hc
  clear hC hc hl hn
  go_enter Try.func69, Try.ntmps69
  go_wp2_with (first
    | (go_at_call 87; (with_reducible refine HO.mono ?_); rintro e w1 ⟨rfl, rfl⟩)
    | (go_at_call 70; (with_reducible refine HP.mono ?_); rintro e w1 ⟨r, rfl, hR, hB, hs⟩; have HR := Lib.hid hR; have HB := Lib.hid hB; clear hR hB hs))
  go_ret
  exact ⟨r, rfl, HR.out, HB.out⟩
def encL (l : List Nat) : List Int := l.flatMap encN
theorem encL_snoc (l : List Nat) (n : Nat) : encL (l ++ [n]) = encL l ++ encN n := by simp [encL]
theorem encL_len (l : List Nat) (h : ∀ n ∈ l, n < 18446744073709551616) : (encL l).length ≤ 10 * l.length := by
  induction l with
  | nil => simp [encL]
  | cons n l ih =>
    have := encN_len n (h n (by simp))
    have := ih (fun m hm => h m (by simp [hm]))
    simp only [encL, List.flatMap_cons, List.length_append, List.length_cons] at *
    omega
end Go.Proofs.Ytofgcacahfdjdaa
namespace Go.Proofs.Ytofgcacahfdjdaa
set_option linter.unusedVariables false
set_option linter.unusedSimpArgs false
open Go.RowKit Go.Proofs.YtofgcacahfdjdaaW.PrintWords Go.Proofs.YtofgcacahfdjdaaW.PrintLast Go.Proofs.YtofgcacahfdjdaaW.PrintMore
set_option maxHeartbeats 4000000 in
set_option maxRecDepth 100000 in
theorem rput_any (n : Nat) (hn : n < 18446744073709551616) (w : World) :
    Calls Try.prog 49 #[.int .u64 (n : Int)] w fun e w' => ∃ r, e = .returned r ∧ Kd.R (Kd.int .u8) 5 w' w.heap.size (fun _ => True) r (encN n) ∧ Below w.heap.size w w' := by
  have hlen := encN_len n hn
  have HN := Lib.hid hn; have HEL := Lib.hid hlen
  clear hn hlen
  go_enter Try.func49, Try.ntmps49
  go_wp2
  go_loopw [0, 3] (fun v1 v0 wr => ∃ (m : Nat) (ys : List Int), v1 = .int .u64 (m : Int) ∧ m ≤ n ∧ App wr w.heap.size v0 ys ∧ ys ++ encN m = encN n ∧ Below w.heap.size w wr) (fun v1 _ _ => (intOf v1).toNat)
  case atStart => exact ⟨n, [], rfl, Nat.le_refl _, .inl (Kd.R_nil _ _ _ _ _), rfl, Below.refl _ _⟩
  case round =>
    obtain ⟨m, ys, rfl, hm, hA, he, hB⟩ := hrel
    have hyl : ys.length ≤ 10 := by
      have e := congrArg List.length he
      rw [List.length_append] at e
      have := HEL.out
      omega
    have hmb : m < 18446744073709551616 := by have := HN.out; omega
    have HM := Lib.hid hm; have HA := Lib.hid hA; have HE := Lib.hid he; have HB := Lib.hid hB; have HY := Lib.hid (show ys.length + 1 ≤ 140737488355328 by omega)
    clear hA he hB hyl hm
    by_cases c : 128 ≤ m
    · have c1 : decide ((128 : Int) ≤ (m : Int)) = true := decide_eq_true (by omega)
      have c2 : decide (128 ≤ m) = true := decide_eq_true c
      have HC := Lib.hid c
      clear c
      go_wp2_with ((with_reducible refine gate_builtin (b := .append) (xs := #[.tmp 6, .tmp 11]) rfl ?_); at_builtin; refine App.append (w0 := w) w.heap.size rfl (.tmp 6) (.tmp 11) rfl u3 ys [(m : Int) % 128 + 128] (some ⟨wr.heap.size, 0, none⟩) 1 1 rfl rfl ?aA ?aR (by decide) ?aB ?aS ?aL ?_; (case aA => exact HA.out.below (below_alloc (Below.refl _ _) _)); (case aR => exact C_one wr _); (case aB => exact below_alloc HB.out _); (case aS => have := HB.out.size; simp; omega); (case aL => exact HY.out); intro v_ w_ ho hb hs; have HO := Lib.hid ho; have HB2 := Lib.hid hb; clear ho hb hs)
      go_roundw
      case rel => exact ⟨m / 128, ys ++ [(m : Int) % 128 + 128], by rw [Int.natCast_ediv]; rfl, by have := HM.out; omega, .inl HO.out, by rw [List.append_assoc, ← HE.out, encN_high (n := m) (by have := HC.out; omega)]; simp [Int.natCast_emod], HB2.out⟩
      case measure => have := HC.out; simp [intOf]; omega
    · have c1 : decide ((128 : Int) ≤ (m : Int)) = false := decide_eq_false (by omega)
      have c2 : decide (128 ≤ m) = false := decide_eq_false c
      have e := encN_low (n := m) (by omega)
      have h256 : ((m : Int) % 256) = m := by omega
      rw [e] at HE
      clear c e
      go_wp2_with ((with_reducible refine gate_builtin (b := .append) (xs := #[.tmp 15, .tmp 18]) rfl ?_); at_builtin; refine App.append (w0 := w) w.heap.size rfl (.tmp 15) (.tmp 18) rfl u3 ys [(m : Int)] (some ⟨wr.heap.size, 0, none⟩) 1 1 rfl rfl ?aA ?aR (by decide) ?aB ?aS ?aL ?_; (case aA => exact HA.out.below (below_alloc (Below.refl _ _) _)); (case aR => exact C_one wr _); (case aB => exact below_alloc HB.out _); (case aS => have := HB.out.size; simp; omega); (case aL => exact HY.out); intro v_ w_ ho hb hs; rw [HE.out] at ho; have HO := Lib.hid ho; have HB2 := Lib.hid hb; clear ho hb hs)
      go_ret
      exact ⟨_, rfl, HO.out, HB2.out⟩
end Go.Proofs.Ytofgcacahfdjdaa
namespace Go.Proofs.Ytofgcacahfdjdaa
set_option linter.unusedVariables false
set_option linter.unusedSimpArgs false
open Go.RowKit Go.ChangeShapes Go.WideShapes Go.Deep Go.Proofs.YtofgcacahfdjdaaW.PrintWords
/-- A value of type t, however it was read, is one of kind k; and wf holds of it. -/
def Opens {α : Type} (P : Program) (t : TypeId) (k : Kd α) (wf : α → Prop) : Prop :=
  ∀ {H : Type} {enc : TypeId × Value → H} {w : World} {base : Nat} {spare : Nat → Bool} {held : Bool} {fuel : Nat} {cs : List Value} {x : DataW H × List MemPlace},
    DataW.trod enc P w base spare held fuel t cs = some x → (∀ n ∈ x.1.weights P t, n ≤ reachBytes) → ∃ y, k.K w y cs ∧ wf y
section
variable {P : Program} {t e : TypeId}
theorem opens_int {k : IntKind} (ht : P.underlying t = some (.int k)) : Opens P t (Kd.int k) (fun n => (Lit.int k n).wf = true) := by
  intro H enc w base spare held fuel cs x h _
  obtain ⟨n, rfl, _, hw⟩ := DataW.trod_int ht h
  exact ⟨n, rfl, hw⟩
theorem weightsAll_mem {H : Type} {e : TypeId} {l : List (DataW H)} {d : DataW H} (hd : d ∈ l) : ∀ n ∈ d.weights P e, n ∈ DataW.weightsAll P e l := by
  induction l with
  | nil => cases hd
  | cons a l ih =>
    intro n hn
    rw [DataW.weightsAll, List.mem_append]
    rcases List.mem_cons.1 hd with rfl | hd
    · exact .inl hn
    · exact .inr (ih hd n hn)
/-- A slice, of elements of any kind. -/
theorem opens_slice {α : Type} {d : Kd α} {wf : α → Prop} {B : Nat} (ht : P.underlying t = some (.slice e)) (hc : P.cellsOf e = d.sz) (hB : P.bytesOf e = B) (he : Opens P e d wf) :
    Opens P t (Kd.slice e d) (fun xs => xs.length * B ≤ 140737488351232 ∧ xs.length ≤ 9223372036854775807 ∧ ∀ x ∈ xs, wf x) := by
  intro H enc w base spare held fuel cs x h hs
  rcases open_slice ht h with ⟨rfl, rfl⟩ | ⟨a, len, cap, m, n, D, Pl, rfl, hb, hl, hm, hmm, rfl, hi⟩
  · exact ⟨[], ⟨none, 0, rfl, Nat.le_refl _, Kd.C_nil d w⟩, by simp, by simp, by simp⟩
  · have hlm : len ≤ m := by rw [hmm]; split <;> omega
    have each : ∀ i, i < len → ∃ y cs', w.cells? base (a.add (i * P.cellsOf e)) (P.cellsOf e) = some cs' ∧ d.K w y cs' ∧ wf y := fun i hil => by
      obtain ⟨cs', h1, h2⟩ := hi i (by omega)
      obtain ⟨y, h3, h4⟩ := he h2 (fun n hn => hs n (by
        rw [DataW.weights, ht]
        refine List.mem_cons_of_mem _ (List.mem_append_left _ (weightsAll_mem (d := D i) ?_ n hn))
        exact List.mem_map.2 ⟨i, List.mem_range.2 hil, rfl⟩))
      exact ⟨y, cs', h1, h3, h4⟩
    have mk : ∀ k, k ≤ len → ∃ ys : List α, ys.length = k ∧ ∀ i y, ys[i]? = some y → ∃ cs', w.cells? base (a.add (i * P.cellsOf e)) (P.cellsOf e) = some cs' ∧ d.K w y cs' ∧ wf y := by
      intro k
      induction k with
      | zero => intro _; exact ⟨[], rfl, fun i y hy => by simp at hy⟩
      | succ k ih =>
        intro hk
        obtain ⟨ys, h1, h2⟩ := ih (by omega)
        obtain ⟨y, cs', hy⟩ := each k (by omega)
        refine ⟨ys ++ [y], by simp [h1], fun i z hz => ?_⟩
        by_cases c : i < k
        · rw [List.getElem?_append_left (by omega)] at hz
          exact h2 i z hz
        · have hik : i = k := by
            have := (List.getElem?_eq_some_iff.1 hz).1
            rw [List.length_append, List.length_singleton] at this
            omega
          subst hik
          rw [List.getElem?_append_right (by omega), h1, Nat.sub_self, List.getElem?_cons_zero, Option.some.injEq] at hz
          subst hz
          exact ⟨cs', hy⟩
    obtain ⟨ys, h1, h2⟩ := mk len (Nat.le_refl _)
    have hmx : maxLen = 9223372036854775807 := rfl
    refine ⟨ys, ⟨some a, cap, by rw [h1], by omega, ?_⟩, ?_, by omega, fun y hy => ?_⟩
    · refine ⟨rfl, by omega, fun _ => ⟨a, rfl, fun j p hp => ?_⟩⟩
      obtain ⟨cs', h3, h4, _⟩ := h2 j p hp
      obtain ⟨_, hlen, hcell⟩ := World.cells?_some h3
      refine ⟨cs', by rw [hlen, hc], h4, fun i u hu => ?_⟩
      have hil := (List.getElem?_eq_some_iff.1 hu).1
      rw [← hc, ← Go.Deep.add_add, hcell i (by omega)]
      exact hu
    · have := hs ((((List.range len).map D).length + ((List.range (m - len)).map fun j => D (len + j)).length) * P.bytesOf e) (by rw [DataW.weights, ht]; exact List.mem_cons_self ..)
      rw [hB, List.length_map, List.length_range, List.length_map, List.length_range] at this
      rw [h1]
      refine Nat.le_trans (Nat.mul_le_mul_right B (Nat.le_add_right len _)) this
    · obtain ⟨i, hi'⟩ := List.mem_iff_getElem?.1 hy
      obtain ⟨_, _, _, h5⟩ := h2 i y hi'
      exact h5
/-- The fields of a struct from a place on: each of its own kind, one behind another. -/
def OpensFields {α : Type} (P : Program) : List Field → Nat → Kd α → (α → Prop) → Prop := fun fs off k wf =>
  ∀ {H : Type} {enc : TypeId × Value → H} {w : World} {base : Nat} {spare : Nat → Bool} {held : Bool} {fuel : Nat} {cs : List Value} {xs : List (DataW H × List MemPlace)},
    (∀ (i : Nat) (f : Field), fs[i]? = some f → DataW.trod enc P w base spare held fuel f.type ((cs.drop f.offset).take (P.cellsOf f.type)) = xs[i]?) → xs.length = fs.length → cs.length = off + k.sz →
    (∀ n ∈ DataW.weightsEach P (fs.map (·.type)) (xs.map (·.1)), n ≤ reachBytes) → ∃ y, k.K w y (cs.drop off) ∧ wf y
theorem opensFields_one {α : Type} {f : Field} {off : Nat} {k : Kd α} {wf : α → Prop} (ho : f.offset = off) (hc : P.cellsOf f.type = k.sz) (h : Opens P f.type k wf) : OpensFields P [f] off k wf := by
  intro H enc w base spare held fuel cs xs hx hl hcs hs
  obtain ⟨x, rfl⟩ : ∃ x, xs = [x] := by
    cases xs with
    | nil => simp at hl
    | cons x r => cases r with
      | nil => exact ⟨x, rfl⟩
      | cons _ _ => simp at hl
  have h0 := hx 0 f rfl
  rw [ho, hc, List.take_of_length_le (by rw [List.length_drop]; omega)] at h0
  exact h h0 (fun n hn => hs n (by simpa [DataW.weightsEach] using hn))
theorem opensFields_cons {α β : Type} {f : Field} {fs : List Field} {off : Nat} {a : Kd α} {b : Kd β} {wa : α → Prop} {wb : β → Prop} (ho : f.offset = off) (hc : P.cellsOf f.type = a.sz) (h : Opens P f.type a wa) (hr : OpensFields P fs (off + a.sz) b wb) :
    OpensFields P (f :: fs) off (Kd.pair a b) (fun y => wa y.1 ∧ wb y.2) := by
  intro H enc w base spare held fuel cs xs hx hl hcs hs
  obtain ⟨x, r, rfl⟩ : ∃ x r, xs = x :: r := by
    cases xs with
    | nil => simp at hl
    | cons x r => exact ⟨x, r, rfl⟩
  have h0 := hx 0 f rfl
  have hsz : (Kd.pair a b).sz = a.sz + b.sz := rfl
  rw [ho, hc] at h0
  simp only [List.map_cons, DataW.weightsEach, List.mem_append] at hs
  obtain ⟨y, hy, wy⟩ := h h0 (fun n hn => hs n (.inl hn))
  obtain ⟨z, hz, wz⟩ := hr (fun i g hg => by have := hx (i + 1) g hg; simpa using this) (by simpa using hl) (by omega) (fun n hn => hs n (.inr hn))
  refine ⟨(y, z), ⟨(cs.drop off).take a.sz, (cs.drop off).drop a.sz, (List.take_append_drop _ _).symm, hy, ?_⟩, wy, wz⟩
  rw [List.drop_drop]
  exact hz
theorem opens_struct {α : Type} {fs : Array Field} {k : Kd α} {wf : α → Prop} (ht : P.underlying t = some (.struct fs)) (hc : P.cellsOf t = k.sz) (h : OpensFields P fs.toList 0 k wf) : Opens P t k wf := by
  intro H enc w base spare held fuel cs x hx hs
  obtain ⟨xs, n, rfl, rfl, hcl, hxl, hf⟩ := DataW.trod_struct ht hx
  have := h (enc := enc) (w := w) (base := base) (spare := spare) (held := held) (fuel := n) (cs := cs) (xs := xs) (fun i f hfi => hf i f (by simpa using hfi)) (by simpa using hxl) (by omega) (fun m hm => hs m (by
    rw [DataW.weights, ht]; exact hm))
  simpa using this
theorem opens_iso {α β : Type} {k : Kd α} {wf : α → Prop} (f : β → α) (g : α → β) (hfg : ∀ x, f (g x) = x) (h : Opens P t k wf) : Opens P t (Kd.iso k f) (fun y => wf (f y)) := by
  intro H enc w base spare held fuel cs x hx hs
  obtain ⟨y, h1, h2⟩ := h hx hs
  refine ⟨g y, ?_, by show wf (f (g y)); rw [hfg]; exact h2⟩
  show k.K w (f (g y)) cs
  rw [hfg]; exact h1
theorem Opens.imp {α : Type} {k : Kd α} {wf wf' : α → Prop} (h : Opens P t k wf) (hw : ∀ y, wf y → wf' y) : Opens P t k wf' := by
  intro H enc w base spare held fuel cs x hx hs
  obtain ⟨y, h1, h2⟩ := h hx hs
  exact ⟨y, h1, hw y h2⟩
/-- An argument that is a slice, opened. -/
theorem Opens.arg {α : Type} {d : Kd α} {e : TypeId} {wf : List α → Prop} {ts : List TypeId} {H : Type} {ds : List (DataW H)} {j : Nat} {enc : TypeId × Value → H} {W : World} {base : Nat} {spare : Nat → Bool} {held : Bool} {v : Value} {x : DataW H} {p : List MemPlace}
    (h : Opens P t (Kd.slice e d) wf) (hsz : (DataW.weightsEach P ts ds).all (· ≤ reachBytes) = true) (ht : ts[j]? = some t) (hd : ds[j]? = some x) (hv : ∃ a len cap, v = .slice a len cap) (hx : DataW.Trod enc P W base spare held t v x p) :
    ∃ A l c, v = .slice A l.length c ∧ l.length ≤ c ∧ Kd.C d W A l.length l ∧ wf l := by
  obtain ⟨fuel, hf⟩ := hx
  obtain ⟨a, len, cap, rfl⟩ := hv
  obtain ⟨l, ⟨A, c, hcs, hlc, hC⟩, hw⟩ := h hf (fun n hn => by
    have := List.all_eq_true.1 hsz _ (DataW.weights_mem_each ht hd n hn)
    simpa using this)
  simp [Value.cells] at hcs
  obtain ⟨rfl, rfl, rfl⟩ := hcs
  exact ⟨_, l, _, rfl, hlc, hC, hw⟩
end
end Go.Proofs.Ytofgcacahfdjdaa
namespace Go.Proofs.Ytofgcacahfdjdaa
set_option linter.unusedVariables false
set_option linter.unusedSimpArgs false
open Go.RowKit Go.Proofs.YtofgcacahfdjdaaW.PrintWords Go.Proofs.YtofgcacahfdjdaaW.PrintLast Go.Proofs.YtofgcacahfdjdaaW.PrintMore Go.Proofs.Ytofgcacahfdjdaa.Hi
end Go.Proofs.Ytofgcacahfdjdaa
namespace Go.Proofs.Ytofgcacahfdjdaa
set_option linter.unusedVariables false
set_option linter.unusedSimpArgs false
open Go.Proofs.YtofgcacahfdjdaaW.PrintWords Go.Proofs.Ytofgcacahfdjdaa.Hi
theorem opens67 : Opens Try.prog 67 k67 (fun b => (Lit.int .i64 b.f0).wf = true ∧ (Lit.int .u64 b.f1).wf = true) :=
  opens_iso (fun x : S67 => (x.f0, x.f1)) (fun p => ⟨p.1, p.2⟩) (fun _ => rfl) (opens_struct Try.underlying67 (by kernel_rfl) (opensFields_cons rfl (by kernel_rfl) (opens_int Try.underlying3) (opensFields_one rfl (by kernel_rfl) (opens_int Try.underlying49))))
theorem opens23 : Opens Try.prog 23 (Kd.slice 67 k67) Pure.WB := opens_slice Try.underlying23 (by kernel_rfl) (by kernel_rfl) opens67
end Go.Proofs.Ytofgcacahfdjdaa
namespace Go.Proofs.Ytofgcacahfdjdaa.Pure
set_option linter.unusedVariables false
set_option linter.unusedSimpArgs false
open Go.RowKit Go.Proofs.Ytofgcacahfdjdaa.Hi
theorem U.of {x : Int} (h : (Lit.int .u64 x).wf = true) : 0 ≤ x ∧ x < 18446744073709551616 := U.of_wf h
/-- a times n by b, rounded up. -/
def up (a n b : Int) : Int := if a * n % b > 0 then a * n / b + 1 else a * n / b
end Go.Proofs.Ytofgcacahfdjdaa.Pure
namespace Go.Proofs.Ytofgcacahfdjdaa.Vt
open Go.RowKit Go.Proofs.YtofgcacahfdjdaaW.PrintWords Go.Proofs.YtofgcacahfdjdaaW.PrintLast Go.Proofs.YtofgcacahfdjdaaW.PrintMore Go.Proofs.Ytofgcacahfdjdaa.Hi Go.Proofs.Ytofgcacahfdjdaa.Q
attribute [local go_sem] max2_int min2_int max_two min_two max_three min_three max_four min_four   -- for this text's walks alone
set_option linter.unusedVariables false
set_option linter.unusedSimpArgs false
def errW : Option Int → Value
  | none => .nilIface
  | some c => .iface 0 (.int .i64 c)
theorem errW_none : errW none = .nilIface := rfl
theorem errW_some (c : Int) : errW (some c) = .iface 0 (.int .i64 c) := rfl
theorem info5 : (Try.prog.info? 5).map (fun i => (i.zero, i.size, i.bytes)) = some (some (.int .u8 0), 1, 1) := by kernel_rfl
end Go.Proofs.Ytofgcacahfdjdaa.Vt
