/- (*kmv.Kmv).Hashes by a walk over its Go text: the hashes, rising. -/
import Derived.Test.YtpjchgiemmnikaaKSort
namespace Go.Proofs.Ytpjchgiemmnikaa
set_option linter.unusedVariables false
set_option linter.unusedSimpArgs false
open Go.RowKit Go.Maps Go.Proofs.YtpjchgiemmnikaaW.PrintWords Go.Proofs.Ytpjchgiemmnikaa.Pure

theorem info25 : (Try.prog.info? 25).map (fun i => (i.zero, i.size, i.bytes)) = some (some (.int .u64 0), 1, 8) := by kernel_rfl
theorem asc_of_sorted {l : List Int} (h : l.Pairwise (fun a b => a ≤ b)) (hn : l.Nodup) : Asc l := by
  have := List.pairwise_and_iff.2 ⟨h, hn⟩
  exact this.imp (fun ⟨a, b⟩ => by have : _ ≠ _ := b; omega)

set_option maxHeartbeats 1000000 in
set_option maxRecDepth 100000 in
theorem hashes_u (kb mb : Nat) (S : List Int) (w : World) (h : KM w kb mb S) :
    Calls Try.prog 32 #[.pointer (some ⟨kb, 0, none⟩)] w fun e w' => ∃ v, e = .returned v ∧ w'.ownsRow w.heap.size 25 1 v S.length (nums .u64 S) ∧ Below w.heap.size w w' := by
  obtain ⟨_, ⟨D, hown, hD⟩, ⟨hA, hL, hr⟩, top, hc, _⟩ := h
  have hc0 := blk_cell hc 0
  have hk : ∀ x, Maps.has D (.int .u64 x) = true ↔ x ∈ S := fun x => by rw [hD.has]; exact decide_eq_true_iff
  have HK := Lib.hid hk; have HA := Lib.hid hA
  clear hk hD hA hr
  go_enter Try.func32, Try.ntmps32
  go_wp2_with (first
    | (at_range; refine wpList_range_own _ rfl _ 94 rfl 25 3 law25 Try.underlying94 _ mb _ _ rfl hown ?_; intro w0 hrg0 hg0 hs0)
    | go_in)
  go_frame
  go_loopw [3] (fun s3 wr => ∃ (left : Lit → Bool) (cnt : Nat) (l : List Int), wr.ranges Try.prog 25 (plainElem Try.prog 3) mb w.heap.size S.length D left cnt ∧ Below w.heap.size w wr ∧
      (Kd.int .u64).R 25 wr w.heap.size (fun k => k ≠ w.heap.size) s3 l ∧ l.Nodup ∧ (∀ x, left (.int .u64 x) = true → x ∈ S) ∧ (∀ x, x ∈ l ↔ x ∈ S ∧ left (.int .u64 x) = false))
    (fun _ wr => wr.rangeLeft mb w.heap.size)
  case atStart => exact ⟨_, _, [], hrg0, Below.grown (Below.refl _ w) hg0 (Nat.le_refl _) (fun k e => by cases e), Kd.R_nil _ _ _ _ _, List.nodup_nil, fun x hx => (HK.out x).1 hx, fun x => ⟨fun c => by simp at c, fun ⟨c1, c2⟩ => by rw [(HK.out x).2 c1] at c2; cases c2⟩⟩
  case round =>
    obtain ⟨left, cnt, l, hrg, hb, hl, hnd, hi1, hi2⟩ := hrel
    have I1 := Lib.hid hi1; have I2 := Lib.hid hi2; have ND := Lib.hid hnd
    clear hi1 hi2 hnd
    go_wp2_with (first
      | (at_next; refine wpList_next_ranges_ii _ rfl _ rfl 25 3 .u64 .i64 law25 Try.underlying25 Try.underlying3 mb w.heap.size _ _ _ _ rfl hrg ?_ ?_)
      | go_in)
    · intro _ hl0
      have hm : ∀ x, x ∈ l ↔ x ∈ S := fun x => by rw [I2.out x, hl0]; simp
      have hlen : l.length ≤ S.length := nodup_le ND.out (fun x hx => (hm x).1 hx)
      have C := sort_own (Kd.own_of_R hl) (by omega)
      have HM := Lib.hid hm; have HB := Lib.hid hb
      clear hm hl0 hl
      go_wp2_with (go_at_call 66; refine C.mono ?_; rintro e w1 ⟨rfl, l', hp, hs, ho, hb1⟩; clear C)
      go_ret
      have e : l' = S := asc_ext (asc_of_sorted hs (hp.nodup_iff.2 ND.out)) HA.out (fun x => by rw [hp.mem_iff, HM.out])
      exact ⟨_, rfl, by rw [← e]; exact ho, HB.out.trans hb1⟩
    · intro x c w1 cnt1 hwx hwc hlx hat hrg1 hlt hg1 hs1 hen
      have hb1 : Below w.heap.size w w1 := hb.trans (below_but hg1 (Nat.le_refl _) hb.size)
      have hl1 : (Kd.int .u64).R 25 w1 w.heap.size (fun k => k ≠ w.heap.size) u3 l := Kd.R_grown hl hg1 (fun k hk c => hk (by simpa using c))
      have hxS := I1.out x hlx
      have hxl : x ∉ l := fun c => by have := ((I2.out x).1 c).2; rw [hlx] at this; cases this
      have hll : l.length ≤ S.length := nodup_le ND.out (fun y hy => ((I2.out y).1 hy).1)
      have hrl := hrg1.lt
      have hmb := hown.lt
      have HX := Lib.hid hxl; have HXS := Lib.hid hxS; have HB := Lib.hid hb1; have HLX := Lib.hid hlx; have HRG := Lib.hid hrg1
      have HBS := Kd.R_base hl1; have HOK := hl1.1
      have HBS := Lib.hid HBS; have HOK := Lib.hid HOK
      clear hat hwc hwx hxl hb hb1 hl hlx hrg1 hxS hs1
      go_wp2_with ((with_reducible refine gate_builtin (b := .append) (xs := #[.tmp 17, .tmp 19]) rfl ?_); at_builtin; refine Kd.R_append (Kd.int .u64) (w0 := w) (W := w1) w.heap.size rfl (.tmp 17) (.tmp 19) 22 25 (.int .u64 0) 8 rfl Try.underlying22 info25 rfl (by decide) (by omega) u3 l x [.int .u64 x] (fun k => k ≠ w.heap.size) (fun _ => False) rfl rfl rfl (fun _ hk => hk.elim) (fun k hk => by omega) hl1 HB.out (by omega) (by omega) ?_; intro v2 w2 ho2 hb2 hg2 hat2)
      go_roundw
      case rel =>
        refine ⟨_, cnt1, l ++ [x], HRG.out.kept hg2 ?_ ?_, hb2, ho2, ?_, ?_, ?_⟩
        · intro c
          have := HBS.out mb c.symm
          omega
        · intro c
          exact HOK.out _ c.symm rfl
        · exact List.nodup_append.2 ⟨ND.out, by simp, fun a ha b hb c => by simp at hb; subst hb; subst c; exact HX.out ha⟩
        · intro y hy
          simp at hy
          exact I1.out y hy.1
        · intro y
          rw [List.mem_append, List.mem_singleton, I2.out y]
          by_cases e : y = x
          · subst e; simp [HXS.out, Lit.sameKey]
          · simp [e, Lit.sameKey]
      case measure => rw [(HRG.out.kept hg2 (fun c => by have := HBS.out mb c.symm; omega) (fun c => HOK.out _ c.symm rfl)).left_eq, hrg.left_eq]; omega
end Go.Proofs.Ytpjchgiemmnikaa
