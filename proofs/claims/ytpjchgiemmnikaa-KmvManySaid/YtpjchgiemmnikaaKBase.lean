/- The hashes of a Kmv as the entries of a map; a world that holds a Kmv. -/
import Derived.Test.YtpjchgiemmnikaaKPure
import Derived.Test.YtpjchgiemmnikaaSortL
import Derived.Maps.RangeWalk
import Derived.Maps.OwnSet
import Derived.Maps.OwnOps
import Derived.Maps.Views
import Derived.WalkKit
import Derived.WalkMore
namespace Go.Proofs.Ytpjchgiemmnikaa
set_option linter.unusedVariables false
set_option linter.unusedSimpArgs false
open Go.RowKit Go.Maps Go.Proofs.YtpjchgiemmnikaaW.PrintWords Go.Proofs.Ytpjchgiemmnikaa.Pure

abbrev KD := DataW Unit
def kone : KD := .lit (.int .i64 1)
theorem law25 : Keyed Try.prog 25 := int_keyed Try.underlying25
/-- The map has S for its keys, each with a one. -/
structure MapIs (D : KD) (S : List Int) : Prop where
  key : ∀ x, D.atKey (.int .u64 x) (.lit (.int .i64 0)) = .lit (.int .i64 (if x ∈ S then 1 else 0))
  has : ∀ x, Maps.has D (.int .u64 x) = decide (x ∈ S)
  size : Maps.size D = S.length
theorem MapIs.nil : MapIs (.map []) [] := ⟨fun x => rfl, fun x => rfl, rfl⟩
theorem MapIs.put {D : KD} {S S' : List Int} {x : Int} (h : MapIs D S) (ht : Tidy D) (hx : x ∉ S) (hm : ∀ y, y ∈ S' ↔ y = x ∨ y ∈ S) (hl : S'.length = S.length + 1) : MapIs (D.put (.int .u64 x) kone) S' := by
  refine ⟨fun y => ?_, fun y => ?_, ?_⟩
  · by_cases e : y = x
    · subst e
      rw [atKey_put_same (k := .int .u64 y) ht.isMap trivial, if_pos ((hm _).2 (.inl rfl))]; rfl
    · rw [atKey_put_other (by intro c; cases c; exact e rfl), h.key]
      by_cases hy : y ∈ S
      · rw [if_pos hy, if_pos ((hm _).2 (.inr hy))]
      · rw [if_neg hy, if_neg (fun c => by rcases (hm _).1 c with c | c <;> contradiction)]
  · by_cases e : y = x
    · subst e
      rw [has_put_same (k := .int .u64 y) ht.isMap trivial, decide_eq_true ((hm _).2 (.inl rfl))]
    · rw [has_put_other (by intro c; cases c; exact e rfl), h.has]
      exact decide_eq_decide.2 ⟨fun c => (hm _).2 (.inr c), fun c => ((hm _).1 c).resolve_left e⟩
  · rw [size_put ht, h.has, decide_eq_false hx, if_neg (by simp), h.size, hl]
theorem MapIs.del {D : KD} {S S' : List Int} {x : Int} (h : MapIs D S) (ht : Tidy D) (hx : x ∈ S) (hm : ∀ y, y ∈ S' ↔ y ∈ S ∧ y ≠ x) (hl : S.length = S'.length + 1) : MapIs (D.del (.int .u64 x)) S' := by
  refine ⟨fun y => ?_, fun y => ?_, ?_⟩
  · by_cases e : y = x
    · subst e
      rw [atKey_del_same, if_neg (fun c => ((hm _).1 c).2 rfl)]
    · rw [atKey_del_other (by intro c; cases c; exact e rfl), h.key]
      by_cases hy : y ∈ S
      · rw [if_pos hy, if_pos ((hm _).2 ⟨hy, e⟩)]
      · rw [if_neg hy, if_neg (fun c => hy ((hm _).1 c).1)]
  · by_cases e : y = x
    · subst e
      rw [has_del_same, decide_eq_false (fun c => ((hm _).1 c).2 rfl)]
    · rw [has_del_other (by intro c; cases c; exact e rfl), h.has]
      exact decide_eq_decide.2 ⟨fun c => (hm _).2 ⟨c, e⟩, fun c => ((hm _).1 c).1⟩
  · have := size_del (k := .int .u64 x) ht
    rw [h.has, decide_eq_true hx, if_pos rfl, h.size] at this
    omega

/-- The bound on the number of entries may be their number. -/
theorem ownsMap_tight {w : World} {b n : Nat} {D : KD} (h : w.ownsMap Try.prog 25 (plainElem Try.prog 3) b n D) : w.ownsMap Try.prog 25 (plainElem Try.prog 3) b (Maps.size D) D := by
  obtain ⟨es, clock, h1, h2, h3, h4⟩ := h
  refine ⟨es, clock, h1, h2, ?_, h4⟩
  rw [h4]
  simp [Maps.size, length_sorted]

/-- Block mb is the map of S. -/
def KMap (w : World) (mb : Nat) (S : List Int) : Prop := ∃ D : KD, w.ownsMap Try.prog 25 (plainElem Try.prog 3) mb S.length D ∧ MapIs D S
/-- What S must be: it rises, at most 1024 numbers of 64 bits. -/
def KGood (S : List Int) : Prop := Asc S ∧ S.length ≤ 1024 ∧ ∀ x ∈ S, 0 ≤ x ∧ x < 18446744073709551616
/-- Block kb is a Kmv of S with its map in block mb. -/
structure KM (w : World) (kb mb : Nat) (S : List Int) : Prop where
  ne : kb ≠ mb
  map : KMap w mb S
  good : KGood S
  cells : ∃ top : Int, w.heap[kb]? = some (.cells #[.map (some mb), .int .u64 top] 96 (0, 0)) ∧ (S.length = 1024 → top ∈ S ∧ ∀ x ∈ S, x ≤ top)
theorem KMap.block {w w' : World} {mb : Nat} {S : List Int} (h : KMap w mb S) (he : w'.heap[mb]? = w.heap[mb]?) : KMap w' mb S := by
  obtain ⟨D, ⟨es, clock, h1, h2⟩, h3⟩ := h
  exact ⟨D, ⟨es, clock, he.trans h1, h2⟩, h3⟩
theorem KMap.lt {w : World} {mb : Nat} {S : List Int} (h : KMap w mb S) : mb < w.heap.size := by
  obtain ⟨D, h1, _⟩ := h; exact h1.lt
theorem KM.block {w w' : World} {kb mb : Nat} {S : List Int} (h : KM w kb mb S) (h1 : w'.heap[kb]? = w.heap[kb]?) (h2 : w'.heap[mb]? = w.heap[mb]?) : KM w' kb mb S :=
  ⟨h.ne, h.map.block h2, h.good, by obtain ⟨t, e, r⟩ := h.cells; exact ⟨t, h1.trans e, r⟩⟩

theorem below_but {w w' : World} {B r : Nat} (h : w.grownBy w' (some r)) (hr : B ≤ r) (hB : B ≤ w.heap.size) : Below B w w' :=
  Below.grown (Below.refl B w) h hB (fun k e => by cases e; exact hr)

set_option maxHeartbeats 1000000 in
set_option maxRecDepth 100000 in
theorem greatest_u (kb mb : Nat) (top : Int) (S : List Int) (w : World) (hc : w.heap[kb]? = some (.cells #[.map (some mb), .int .u64 top] 96 (0, 0))) (hm : KMap w mb S) (hr : ∀ x ∈ S, 0 ≤ x ∧ x < 18446744073709551616) :
    Calls Try.prog 65 #[.pointer (some ⟨kb, 0, none⟩)] w fun e w' => ∃ m : Int, e = .returned (.int .u64 m) ∧ (∀ x ∈ S, x ≤ m) ∧ (m ∈ S ∨ m = 0) ∧ Below w.heap.size w w' := by
  obtain ⟨D, hown, hD⟩ := hm
  have hc0 := blk_cell hc 0
  have hk : ∀ x ∈ S, Maps.has D (.int .u64 x) = true := fun x hx => by rw [hD.has]; exact decide_eq_true hx
  have hk2 : ∀ x, Maps.has D (.int .u64 x) = true → x ∈ S := fun x hx => by rw [hD.has] at hx; exact of_decide_eq_true hx
  have HK := Lib.hid hk; have HK2 := Lib.hid hk2; have HR := Lib.hid hr
  clear hk hk2 hr hD
  go_enter Try.func65, Try.ntmps65
  go_wp2
  go_step3
  go_wp2
  go_step3
  go_wp2_with (first
    | (at_range; refine wpList_range_own _ rfl _ 94 rfl 25 3 law25 Try.underlying94 _ mb _ _ rfl hown ?_; intro w0 hrg0 hg0 hs0)
    | go_in)
  (try go_frame)
  go_loopw [3] (fun s3 wr => ∃ (left : Lit → Bool) (cnt : Nat) (m : Int), s3 = .int .u64 m ∧ wr.ranges Try.prog 25 (plainElem Try.prog 3) mb w.heap.size S.length D left cnt ∧ Below w.heap.size w wr ∧
      (∀ x ∈ S, left (.int .u64 x) = true ∨ x ≤ m) ∧ (∀ x, left (.int .u64 x) = true → x ∈ S) ∧ (m ∈ S ∨ m = 0))
    (fun _ wr => wr.rangeLeft mb w.heap.size)
  case atStart => exact ⟨_, _, 0, rfl, hrg0, Below.grown (Below.refl _ w) hg0 (Nat.le_refl _) (fun k e => by cases e), fun x hx => .inl (HK.out x hx), HK2.out, .inr rfl⟩
  case round =>
    obtain ⟨left, cnt, m, rfl, hrg, hb, hi1, hi2, hi3⟩ := hrel
    have I1 := Lib.hid hi1; have I2 := Lib.hid hi2; have I3 := Lib.hid hi3
    clear hi1 hi2 hi3
    go_wp2_with (first
      | (at_next; refine wpList_next_ranges_ii _ rfl _ rfl 25 3 .u64 .i64 law25 Try.underlying25 Try.underlying3 mb w.heap.size _ _ _ _ rfl hrg ?_ ?_)
      | go_in)
    · intro _ hl0
      go_wp2
      (try rw [Exit.noGoto_ret])
      go_ret
      exact ⟨m, rfl, fun x hx => (I1.out x hx).resolve_left (by rw [hl0]; simp), I3.out, hb⟩
    · intro x c w1 cnt1 hwx hwc hlx hat hrg1 hlt hg1 hs1 hen
      have hb1 : Below w.heap.size w w1 := hb.trans (below_but hg1 (Nat.le_refl _) hb.size)
      have hxS := I2.out x hlx
      have hx0 := (HR.out x hxS).1
      clear hat hwc hwx
      go_wp2
      · have hle : x ≤ m := by first | assumption | omega
        go_roundw
        case rel => exact ⟨_, cnt1, m, rfl, hrg1, hb1, fun y hy => (I1.out y hy).elim (fun h => if e : y = x then .inr (by omega) else .inl (by simp [h, Lit.sameKey]; exact fun c => e c)) .inr, fun y hy => I2.out y (by simp at hy; exact hy.1), I3.out⟩
        case measure => rw [hrg1.left_eq, hrg.left_eq]; omega
      · have hle : ¬ x ≤ m := by first | assumption | omega
        go_roundw
        case rel => exact ⟨_, cnt1, x, rfl, hrg1, hb1, fun y hy => (I1.out y hy).elim (fun h => if e : y = x then .inr (by omega) else .inl (by simp [h, Lit.sameKey]; exact fun c => e c)) (fun h => .inr (by omega)), fun y hy => I2.out y (by simp at hy; exact hy.1), .inl hxS⟩
        case measure => rw [hrg1.left_eq, hrg.left_eq]; omega
end Go.Proofs.Ytpjchgiemmnikaa
