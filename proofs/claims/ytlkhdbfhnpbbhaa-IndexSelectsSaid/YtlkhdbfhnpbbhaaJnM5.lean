/- What the laws of this folder share, part 5: walks of functions over their Go text, and plain lemmas. Conditions: as each lemma says. -/
import Derived.Maps.OwnSet
import Derived.Maps.OwnOps
import Derived.Maps.Views
import Derived.StringKeys
import Derived.WalkMore
import Derived.SizedLaws
import Derived.ChangeArms
import Derived.Deep.Slices
import Derived.ProofKit
import Derived.Sort.OwnSorted
import Derived.Sort.Walk0
import Derived.StillTailTactics
import Derived.Test.YtlkhdbfhnpbbhaaJnM4
set_option linter.unusedVariables false
set_option linter.unusedSimpArgs false
namespace Go.Proofs.Ytlkhdbfhnpbbhaa
open Go.RowKit Go.Proofs.YtlkhdbfhnpbbhaaW.PrintWords Go.Proofs.YtlkhdbfhnpbbhaaW.PrintLast Go.Proofs.YtlkhdbfhnpbbhaaW.PrintMore
open Go.Proofs.Ytlkhdbfhnpbbhaa.Ix
structure Iter (w : World) (ob kb : Nat) (l : List Int) : Prop where
 own : ∃ rb cr A c, rb < w.heap.size ∧ w.cell? ⟨ob, 0, none⟩ = some (.slice (some ⟨rb, 0, none⟩) 1 cr) ∧ w.cell? ⟨rb, 0, none⟩ = some (.slice A l.length c) ∧ Kd.C (Kd.int .i64) w A l.length l
 one : w.cell? ⟨kb, 0, none⟩ = some (.int .i64 1)
 olt : ob < w.heap.size
 klt : kb < w.heap.size
theorem infoS : (Try.prog.info? 38).map (fun i => (i.zero, i.size, i.bytes)) = some (some (.slice none 0 0), 1, 24) := by kernel_rfl
set_option maxRecDepth 100000 in
set_option maxHeartbeats 8000000 in
theorem most_u {g : Nat} {A : Option Addr} {c k : Nat} {l : List Int} {w : World} (hC : Kd.C (Kd.int .i64) w A l.length l) (hc : l.length ≤ c) (hR : post_Rises.f k l = some true) (hl : l.length < 4096)
  (hg : w.cell? ⟨g, 0, none⟩ = some (.slice A l.length c)) (hgl : g < w.heap.size) :
  Calls Try.prog 70 #[.slice (some ⟨g, 0, none⟩) 1 1, .int .i64 1] w fun e w' => ∃ ob kb, e = .returned (.func (.func 89) #[] #[.pointer (some ⟨ob, 0, none⟩), .pointer (some ⟨kb, 0, none⟩)]) ∧ Iter w' ob kb l ∧ Below w.heap.size w w' := by
 obtain ⟨i0, hi0, hzz⟩ := Option.map_eq_some_iff.1 infoS; simp only [Prod.mk.injEq] at hzz; obtain ⟨hz0, hz1, hz2⟩ := hzz; have HC := Lib.hid hC; have HR := Lib.hid hR; have HLC := Lib.hid hc; have HPL := Lib.hid (show plain_List_int.f l = some l by unfold plain_List_int.f; rw [if_pos zk51]; simp); have HI := Lib.hid (And.intro hi0 (And.intro hz0 (And.intro hz1 hz2))); have hmf : ∀ (fn : Fn) (first cap : Array Value) (w : World), (Instr.makeFunc fn first cap).run Try.prog w = .ok (.func fn first cap) w := fun _ _ _ _ => rfl; clear hC hR hi0 hz0 hz1 hz2 hc; go_enter Try.func70, Try.ntmps70; go_wp2; refine wp_loop_rounds 2 ?_; rw [rounds_succ]; (go_wp2_with (go_at_call 86; go_must (refine (post_Rises.calls k _ _ l true _ (Kd.C_below HC.out (((Below.refl _ w).alloc (Nat.le_refl _) _).alloc zk30 _)) HLC.out HR.out).mono ?_; rintro e w1 ⟨rfl, ⟨nd, rfl⟩⟩))); obtain ⟨W2, hW2⟩ : ∃ W2, World.drewN ((w.alloc (.cells #[.int .i64 1] 3)).alloc (.cells #[.slice none 0 0] 117)) nd = W2 := ⟨_, rfl⟩
 have hbk : Boxed W2 w.heap.size 3 (.int .i64 1) := by rw [← hW2]; exact (Boxed.new w _ _).alloc _
 have hbo : Boxed W2 (w.heap.size + 1) 117 (.slice none 0 0) := by
  rw [← hW2]; have := Boxed.new (w.alloc (.cells #[.int .i64 1] 3)) 117 (.slice none 0 0); rw [World.size_alloc] at this; exact this
 have hB2 : Below w.heap.size w W2 := by rw [← hW2]; exact pw_below_drewN (((Below.refl _ w).alloc (Nat.le_refl _) _).alloc zk30 _) _
 have HC2 := Lib.hid (Kd.C_below HC.out hB2); have hob2 : W2.drew.cell? ⟨w.heap.size + 1, 0, none⟩ = some (.slice none 0 0) := hbo.cell; have HBO := Lib.hid hbo; have HBK := Lib.hid hbk; have HB2 := Lib.hid hB2; rw [hW2]; have HW2 := Lib.hid hW2; clear hW2 hbk hbo hB2 HC hg; refine wp_region_noPanic ?_; refine start_ (n := 6) (S := fun w' => w'.cell? ⟨w.heap.size + 1, 0, none⟩ = some (.slice none 0 0)) (ds := [5]) #[false, false, false, false, false, false] zk3 rfl rfl hob2 (fun hHeld => ?_); clear hob2; refine take_ (i := 0) (N := some 17) (v := ?_) (a' := ?_) #[true, false, false, false, false, false] rfl rfl zk3 (fun _ _ _ h => h) (Or.inl ⟨zk16, ?_⟩) hHeld ?_ ?_; rotate_left
 ·exact zk121
 rotate_left
 ·exact zk94
 refine pure_ (i := 1) (N := some 18) (v := ?_) (a' := ?_) #[true, true, false, false, false, false] rfl rfl zk3 (fun _ _ _ h => h) (Or.inl ⟨zk16, ?_⟩) ?_ ?_; rotate_left
 ·exact zk95
 rotate_left
 ·exact zk94
 refine one_ (i := 2) (N := some 19) #[true, true, true, false, false, false] rfl rfl zk3 zk30 (fun K hK => ?_); refine goes_ Try.func88 zk3 rfl #[.slice A l.length c] zk16 rfl rfl zk38 ?_; refine (plain_List_int.calls _ _ l l W2.drew (Kd.C_drew HC2.out) HLC.out HPL.out).mono ?_; rintro e w3 ⟨v, rfl, hRv, hb⟩; refine ⟨_, rfl, ?_⟩; obtain ⟨A', c', rfl, hcc, hC3⟩ := Kd.R_reads hRv; have HRV := Lib.hid hRv; have hb3 : Boxed w3 (w.heap.size + 1) 117 (.slice none 0 0) := (hb.block _ HBO.out.lt).trans HBO.out; have hk3 : Boxed w3 w.heap.size 3 (.int .i64 1) := (hb.block _ HBK.out.lt).trans HBK.out; have HB3 := Lib.hid (HB2.out.trans ((below_drew (Below.refl W2.heap.size W2)).trans hb |>.mono HB2.out.size)); have HBO3 := Lib.hid hb3; have HBK3 := Lib.hid hk3; have HSZ := Lib.hid hb.size; obtain ⟨v', w4, hrun, hown, hgr, -⟩ := run_append_own (P := Try.prog) (w := w3.alloc (.cells #[.slice A' l.length c'] 38)) (w3.heap.size) 117 117 38 i0 (.slice none 0 0) 1 24 Try.underlying117 HI.out.1 HI.out.2.1 HI.out.2.2.1 HI.out.2.2.2 rfl zk40 (.slice none 0 0) 0 [] (World.ownsRow_nil _ _ _ _) ⟨w3.heap.size, 0, none⟩ 1 1 [.slice A' l.length c'] rfl (cell_one_new _ _ _) (by simp [Value.oneCell']) (by simp [maxLen]) zk12 zk30; obtain ⟨g', cap', rfl⟩ := ownsRow_succ hown; have hc3 := hb3.cell; have HRUN := Lib.hid hrun; have HOWN := Lib.hid hown; have HGR := Lib.hid hgr; clear hRv hb hC3 hcc hb3 hk3 hrun hown hgr; clear hHeld; refine hK.out _ _ hc3 (fun hHeld => ?_); clear hK K; refine norm_ (a' := ?_) ?_ ?_; rotate_left
 ·exact zk112
 refine one_ (i := 3) (N := some 20) #[true, true, true, true, false, false] rfl rfl zk3 zk30 (fun K hK => ?_); refine value_ (v := .slice (some ⟨w3.heap.size, 0, none⟩) 1 1) (w1 := w3.alloc (.cells #[.slice A' l.length c'] 38)) zk16 rfl ?_ ?_
 ·go_simp
 clear hHeld; refine hK.out _ _ (Boxed.cell (HBO3.out.alloc _)) (fun hHeld => ?_); clear hK K; refine norm_ (a' := ?_) ?_ ?_; rotate_left
 ·exact zk103
 refine one_ (i := 4) (N := some 21) #[true, true, true, true, true, false] rfl rfl zk3 zk30 (fun K hK => ?_); have HB4 := Lib.hid (show Boxed w4 (w.heap.size + 1) 117 (.slice none 0 0) from (HBO3.out.alloc _).kept HGR.out zk82); refine value_ (v := .slice (some ⟨g', 0, none⟩) 1 cap') (w1 := w4) zk16 rfl ?_ ?_
 ·have hrun := HRUN.out; simp [execOp, resolve, invoke, builtin, Act.eval, hrun, Result.andThen]
 clear hHeld; refine hK.out _ _ (Boxed.cell HB4.out) (fun hHeld => ?_); clear hK K; refine norm_ (a' := ?_) ?_ ?_; rotate_left
 ·exact zk111
 refine last_ (i := 5) (N := none) #[true, true, true, true, true, true] rfl rfl zk3 zk40 (fun K hK => ?_); have s0 := HB4.out.cell; have s1 := HB4.out.frozen; refine skip_ (w1 := ?_) zk16 rfl ?_ ?_; rotate_left
 ·go_simp; rfl
 refine hK.out _ _ ?_; clear hK K s0 s1; refine done_ zk3 ?_; refine NoPanic.normal ?_; have hbo5 := HB4.out.set (.slice (some ⟨g', 0, none⟩) 1 cap'); have hk4 : Boxed w4 w.heap.size 3 (.int .i64 1) := (HBK3.out.alloc _).kept HGR.out zk82; have hk5 := hk4.other (show w.heap.size ≠ w.heap.size + 1 by omega) (.slice (some ⟨g', 0, none⟩) 1 cap'); have hr4 := Kd.R_grown (Kd.R_alloc HRV.out (.cells #[.slice A' l.length c'] 38)) HGR.out (fun k _ => by simp [Value.ownBlock]); have hr5 := Kd.R_far (p := ⟨w.heap.size + 1, 0, none⟩) (Kd.R_bound hr4) (fun k hk => by have h1 := hk.2.1; have h2 := HBO.out.lt; have h3 : W2.drew.heap.size = W2.heap.size := rfl; show k ≠ w.heap.size + 1; omega) (.slice (some ⟨g', 0, none⟩) 1 cap'); have hc5 := (Kd.R_reads' hr5).2.2; have hg3 : w3.heap.size ≤ g' := own_base HOWN.out g' rfl; have hg4 : g' < w4.heap.size := own_lt HOWN.out g' rfl; have hl3 : w.heap.size + 1 < w3.heap.size := HBO3.out.lt; have ho5 := HOWN.out.kept (grownBy_setCell' w4 (w.heap.size + 1) (.slice (some ⟨g', 0, none⟩) 1 cap')) (.inr (by simp [Value.ownBlock]; omega)); have hx5 : (w4.setCell ⟨w.heap.size + 1, 0, none⟩ (.slice (some ⟨g', 0, none⟩) 1 cap')).cell? ⟨g', 0, none⟩ = some (.slice A' l.length c') := (ho5.cellAt 0 zk30).trans rfl
 have hB5 : Below w.heap.size w (w4.setCell ⟨w.heap.size + 1, 0, none⟩ (.slice (some ⟨g', 0, none⟩) 1 cap')) :=
  ((HB3.out.alloc HB3.out.size _).grown HGR.out (by simp; have := HB3.out.size; omega) (fun k e => by simp [Value.ownBlock] at e)).setCell (p := ⟨w.heap.size + 1, 0, none⟩) (show w.heap.size ≤ w.heap.size + 1 by omega) _
 have HF := Lib.hid (And.intro hc5 (And.intro hx5 (And.intro hB5 hbo5.cell))); have hck := hk5.cell; clear hbo5 hk4 hk5 hr4 hr5 hc5 ho5 hx5 hB5; go_wp2; rw [rounds_succ]; go_wp2; go_ret
 exact ⟨w.heap.size + 1, w.heap.size, rfl, ⟨⟨g', cap', A', c', by simp; exact hg4, HF.out.2.2.2, HF.out.2.1, HF.out.1⟩, hck, zk51, zk51⟩, HF.out.2.2.1⟩
set_option maxRecDepth 100000 in
set_option maxHeartbeats 4000000 in
theorem from_u {A : Option Addr} {c k : Nat} {l : List Int} {w : World} (hC : Kd.C (Kd.int .i64) w A l.length l) (hc : l.length ≤ c) (hR : post_Rises.f k l = some true) (hl : l.length < 4096) :
  Calls Try.prog 59 #[.slice A l.length c] w fun e w' => ∃ ob kb, e = .returned (.func (.func 89) #[] #[.pointer (some ⟨ob, 0, none⟩), .pointer (some ⟨kb, 0, none⟩)]) ∧ Iter w' ob kb l ∧ Below w.heap.size w w' := by
 have HM := fun (W : World) (h : Kd.C (Kd.int .i64) W A l.length l) (g : Nat) (hg : W.cell? ⟨g, 0, none⟩ = some (.slice A l.length c)) (hgl : g < W.heap.size) => most_u h hc hR hl hg hgl; have HC := Lib.hid hC; have HMM := Lib.hid HM; clear hC hR HM; go_enter Try.func59, Try.ntmps59; have hcw : (w.alloc (.cells #[.slice A l.length c] 38)).cell? ⟨w.heap.size, 0, none⟩ = some (.slice A l.length c) := (Boxed.new w 38 _).cell; have HCW := Lib.hid hcw; clear hcw; (go_wp2_with (go_at_call 70; go_must (refine (HMM.out _ (by repeat (first | exact HC.out | (with_reducible refine Kd.C_alloc ?_ _) | (with_reducible refine Kd.C_drewN ?_ _) | (with_reducible refine Kd.C_drew ?_))) w.heap.size (by first | exact HCW.out | (go_simp; exact HCW.out)) zk30).mono ?_; rintro e w1 ⟨ob, kb, rfl, hi, hb⟩; have HII := Lib.hid hi; have HBB := Lib.hid hb; clear hi hb))); go_ret
 exact ⟨ob, kb, rfl, HII.out, Below.trans (by repeat (first | exact Below.refl _ _ | refine below_alloc ?_ _ | refine pw_below_drewN ?_ _ | refine below_drew ?_)) (HBB.out.mono zk30)⟩
theorem list_u {ob kb : Nat} {l : List Int} {w : World} (h : Iter w ob kb l) (hl : l.length < 4096) :
  Calls Try.prog 58 #[.func (.func 89) #[] #[.pointer (some ⟨ob, 0, none⟩), .pointer (some ⟨kb, 0, none⟩)], .int .i64 4096] w
   fun e w' => ∃ v, e = .returned v ∧ w'.ownsRow w.heap.size 3 1 v l.length (l.map (.int .i64)) ∧ Below w.heap.size w w' := by
 obtain ⟨⟨rb, cr, A, c, hrb, h1, h2, hC⟩, h3, h4, h5⟩ := h; refine callsIn_wide.1 (postList_in Fence.wide 3 trivial trivial rfl zk12 ob kb rb cr A c l w h4 h5 hrb h1 h2 h3 hl fun j hj => ?_); obtain ⟨ad, e, hc⟩ := Kd.at_int hC (j : Int) zk12 zk12; rw [Int.toNat_natCast] at hc; have := World.block_lt_of_cell? w _ hc; exact ⟨ad, e, by unfold Addr.add at this; split at this <;> exact this, hc⟩
end Go.Proofs.Ytlkhdbfhnpbbhaa
namespace Go.Proofs.Ytlkhdbfhnpbbhaa
open Go.RowKit Go.Maps Go.Proofs.YtlkhdbfhnpbbhaaW.PrintWords Go.Proofs.YtlkhdbfhnpbbhaaW.PrintLast Go.Proofs.YtlkhdbfhnpbbhaaW.PrintMore Go.Proofs.Ytlkhdbfhnpbbhaa.Ix Go.Proofs.Ytlkhdbfhnpbbhaa.Tx Go.Proofs.Ytlkhdbfhnpbbhaa.Pure
def numOf (S : List (List LB)) (x : ByteArray) : Nat := match S.findIdx? (fun s => decide (textB s = x)) with
 | some i => i + 1
 | none => 0
theorem numOf_le (S : List (List LB)) (x : ByteArray) : numOf S x ≤ S.length := by
 unfold numOf
 cases h : S.findIdx? (fun s => decide (textB s = x)) with
 | some i => obtain ⟨hi, _⟩ := List.findIdx?_eq_some_iff_getElem.1 h; exact hi
 | none => exact Nat.zero_le _
theorem numOf_snoc (S : List (List LB)) (l : List LB) (x : ByteArray) : numOf (S ++ [l]) x = if numOf S x = 0 then (if textB l = x then S.length + 1 else 0) else numOf S x := by
 unfold numOf; rw [List.findIdx?_append]
 cases h : S.findIdx? (fun s => decide (textB s = x)) with
 | some i => simp
 | none =>
  by_cases e : textB l = x
  ·simp [List.findIdx?_cons, e]
  ·simp [List.findIdx?_cons, e]
abbrev SD := DataW Unit
theorem lawS : Keyed Try.prog 9 := string_keyed Try.underlying9
structure MapOf (D : SD) (S : List (List LB)) : Prop where
 key : ∀ x : ByteArray, D.atKey (.string x.data.toList) (.lit (.int .i64 0)) = .lit (.int .i64 (numOf S x : Nat))
 has : ∀ x : ByteArray, Maps.has D (.string x.data.toList) = decide (numOf S x ≠ 0)
 size : Maps.size D = S.length
theorem data_inj {a b : ByteArray} (h : a.data.toList = b.data.toList) : a = b := bytes_ext (by rw [Lib.toList_data, Lib.toList_data, h])
theorem MapOf.nil : MapOf (.map []) [] := ⟨fun _ => rfl, fun _ => rfl, rfl⟩
theorem MapOf.put {D : SD} {S : List (List LB)} {l : List LB} (h : MapOf D S) (ht : Tidy D) (hn : numOf S (textB l) = 0) :
  MapOf (D.put (.string (textB l).data.toList) (.lit (.int .i64 ((S.length + 1 : Nat) : Int)))) (S ++ [l]) := by
 refine ⟨fun y => ?_, fun y => ?_, ?_⟩
 ·by_cases e : y = textB l
  ·subst e; rw [atKey_put_same (k := .string (textB l).data.toList) ht.isMap trivial, numOf_snoc, if_pos hn, if_pos rfl]
  ·rw [atKey_put_other (by intro c; injection c with c; exact e (data_inj c)), h.key, numOf_snoc]
   by_cases c : numOf S y = 0
   ·rw [if_pos c, if_neg (fun x => e x.symm), c]
   ·rw [if_neg c]
 ·by_cases e : y = textB l
  ·subst e; rw [has_put_same (k := .string (textB l).data.toList) ht.isMap trivial, numOf_snoc, if_pos hn, if_pos rfl]; simp
  ·rw [has_put_other (by intro c; injection c with c; exact e (data_inj c)), h.has, numOf_snoc]
   by_cases c : numOf S y = 0
   ·rw [if_pos c, if_neg (fun x => e x.symm), c]
   ·rw [if_neg c]
 ·rw [size_put ht, h.has, hn]; simp [h.size]
structure Far (f : Nat → Prop) (w w' : World) : Prop where
 size : w.heap.size ≤ w'.heap.size
 block : ∀ k, k < w.heap.size → ¬ f k → w'.heap[k]? = w.heap[k]?
theorem Far.of_below {f : Nat → Prop} {w w' : World} (h : Below w.heap.size w w') : Far f w w' := ⟨h.size, fun k hk _ => h.block k hk⟩
theorem Far.trans {f : Nat → Prop} {a b c : World} (h : Far f a b) (k : Far f b c) : Far f a c :=
 ⟨Nat.le_trans h.size k.size, fun i hi hf => (k.block i (Nat.lt_of_lt_of_le hi h.size) hf).trans (h.block i hi hf)⟩
theorem Far.grown {f : Nat → Prop} {a w w' : World} {row : Option Nat} (h : Far f a w) (hg : w.grownBy w' row) (hr : ∀ k, row = some k → f k) : Far f a w' :=
 h.trans ⟨hg.size, fun k hk hf => hg.block k hk (fun e => hf (hr k e.symm))⟩
theorem Far.setCell {f : Nat → Prop} {a w : World} (h : Far f a w) {p : Addr} (hp : f p.block) (u : Value) : Far f a (w.setCell p u) :=
 h.trans ⟨by simp [World.setCell], fun k _ hf => Below.heap_setCell _ _ _ _ (fun e => hf (e ▸ hp))⟩
theorem R_other {α : Type} {d : Kd α} {e : Nat} {w w1 : World} {base : Nat} {f ok : Nat → Prop} {v : Value} {xs : List α} (h : d.R e w base ok v xs) (hf : Far f w w1) (hok : ∀ k, ok k → ¬ f k) : d.R e w1 base ok v xs :=
 Kd.R_step h (fun k ho hk => hf.block k hk (hok k ho))
structure IX (f : Nat → Prop) (w : World) (base kb mb : Nat) (S : List (List LB)) : Prop where
 ne : kb ≠ mb
 cells : ∃ v, w.heap[kb]? = some (.cells #[v, .map (some mb)] 73 (0, 0)) ∧ Kd.R (Kd.slice 41 k41) 23 w base (fun k => f k ∧ k ≠ kb ∧ k ≠ mb) v S
 map : ∃ D : SD, w.ownsMap Try.prog 9 (plainElem Try.prog 3) mb S.length D ∧ MapOf D S
 good : ∀ s ∈ S, chk s = true
 len : S.length ≤ 4096
 kge : base ≤ kb
 mge : base ≤ mb
 fk : f kb
 fm : f mb
theorem IX.klt {f : Nat → Prop} {w : World} {base kb mb : Nat} {S : List (List LB)} (h : IX f w base kb mb S) : kb < w.heap.size := by
 obtain ⟨v, hv, _⟩ := h.cells; exact (Array.getElem?_eq_some_iff.1 hv).1
theorem IX.mlt {f : Nat → Prop} {w : World} {base kb mb : Nat} {S : List (List LB)} (h : IX f w base kb mb S) : mb < w.heap.size := by
 obtain ⟨D, h1, _⟩ := h.map; exact h1.lt
theorem IX.below {f : Nat → Prop} {w w' : World} {base kb mb : Nat} {S : List (List LB)} (h : IX f w base kb mb S) (hb : Below w.heap.size w w') : IX f w' base kb mb S := by
 refine ⟨h.ne, ?_, ?_, h.good, h.len, h.kge, h.mge, h.fk, h.fm⟩
 ·obtain ⟨v, hv, hR⟩ := h.cells; exact ⟨v, (hb.block kb h.klt).trans hv, Kd.R_below hR hb⟩
 ·obtain ⟨D, ⟨es, clock, h1, h2⟩, h3⟩ := h.map; exact ⟨D, ⟨es, clock, (hb.block mb h.mlt).trans h1, h2⟩, h3⟩
theorem IX.far {f g : Nat → Prop} {w w' : World} {base kb mb : Nat} {S : List (List LB)} (h : IX f w base kb mb S) (hg : Far g w w') (hfg : ∀ k, f k → ¬ g k) : IX f w' base kb mb S := by
 refine ⟨h.ne, ?_, ?_, h.good, h.len, h.kge, h.mge, h.fk, h.fm⟩
 ·obtain ⟨v, hv, hR⟩ := h.cells; exact ⟨v, (hg.block kb h.klt (hfg kb h.fk)).trans hv, R_other hR hg (fun k hk => hfg k hk.1)⟩
 ·obtain ⟨D, ⟨es, clock, h1, h2⟩, h3⟩ := h.map; exact ⟨D, ⟨es, clock, (hg.block mb h.mlt (hfg mb h.fm)).trans h1, h2⟩, h3⟩
theorem IX.bound {f : Nat → Prop} {w : World} {base kb mb : Nat} {S : List (List LB)} (h : IX f w base kb mb S) : IX (fun k => f k ∧ base ≤ k ∧ k < w.heap.size) w base kb mb S := by
 refine ⟨h.ne, ?_, h.map, h.good, h.len, h.kge, h.mge, ⟨h.fk, h.kge, h.klt⟩, ⟨h.fm, h.mge, h.mlt⟩⟩; obtain ⟨v, hv, hR⟩ := h.cells; exact ⟨v, hv, Kd.R_mono (Kd.R_bound hR) (fun k hk => ⟨⟨hk.1.1, hk.2.1, hk.2.2.1⟩, hk.1.2⟩)⟩
theorem IX.mono {f g : Nat → Prop} {w : World} {base kb mb : Nat} {S : List (List LB)} (h : IX f w base kb mb S) (hfg : ∀ k, f k → g k) : IX g w base kb mb S := by
 refine ⟨h.ne, ?_, h.map, h.good, h.len, h.kge, h.mge, hfg _ h.fk, hfg _ h.fm⟩; obtain ⟨v, hv, hR⟩ := h.cells; exact ⟨v, hv, Kd.R_mono hR (fun k hk => ⟨hfg k hk.1, hk.2⟩)⟩
theorem inew_u (w : World) : Calls Try.prog 33 #[] w fun e w' => ∃ kb mb, e = .returned (.pointer (some ⟨kb, 0, none⟩)) ∧ IX (fun k => w.heap.size ≤ k) w' w.heap.size kb mb [] ∧ Below w.heap.size w w' := by
 have h1 := World.ownsMap_made (H := Unit) w Try.prog 9 (plainElem Try.prog 3); have h2 := h1.alloc (.cells #[.slice none 0 0, .map (some w.heap.size)] 73)
 have b1 : Below w.heap.size w ((w.alloc (.map #[] 0)).alloc (.cells #[.slice none 0 0, .map (some w.heap.size)] 73)) :=
  ((Below.refl w.heap.size w).alloc (Nat.le_refl _) (.map #[] 0)).alloc zk30 _
 have n1 := blk_new (w.alloc (.map #[] 0)) (Obj.cells #[.slice none 0 0, .map (some w.heap.size)] 73); have H2 := Lib.hid h2; have B1 := Lib.hid b1; have N1 := Lib.hid n1; clear h1 h2 b1 n1; have hmk : ∀ w, (Instr.makeMap 71 none).run Try.prog w = .ok (.map (some w.heap.size)) (w.alloc (.map #[] 0)) := fun w => run_makeMap 71 w; go_enter Try.func33, Try.ntmps33; go_wp2; go_ret
 exact ⟨w.heap.size + 1, w.heap.size, zk30, ⟨zk12, ⟨.slice none 0 0, by simpa using N1.out, Kd.R_nil _ _ _ _ _⟩, ⟨_, H2.out, MapOf.nil⟩, zk30, zk30, zk12, Nat.le_refl _, zk12, Nat.le_refl _⟩, B1.out⟩
theorem ilen_u {f : Nat → Prop} {w : World} {base kb mb : Nat} {S : List (List LB)} (h : IX f w base kb mb S) :
  Calls Try.prog 23 #[.pointer (some ⟨kb, 0, none⟩)] w fun e w' => e = .returned (.int .i64 (S.length : Nat)) ∧ w' = w := by
 obtain ⟨v, hv, hR⟩ := h.cells; obtain ⟨A, c, rfl⟩ := Kd.R_slice hR; have c0 := blk_cell hv 0; clear h hR hv; go_enter Try.func23, Try.ntmps23; go_wp2; go_ret
 exact ⟨rfl, rfl⟩
def posOf (S : List (List LB)) (l : List LB) : Nat := if chk l = true then numOf S (textB l) else 0
set_option maxRecDepth 100000 in
set_option maxHeartbeats 8000000 in
theorem ifind_u {f : Nat → Prop} {w : World} {base kb mb : Nat} {S : List (List LB)} (h : IX f w base kb mb S) {A : Option Addr} {c : Nat} {l : List LB} (hC : Kd.C k41 w A l.length l) (hc : l.length ≤ c) :
  Calls Try.prog 11 #[.pointer (some ⟨kb, 0, none⟩), .slice A l.length c] w fun e w' => e = .returned (.tuple #[.int .i64 ((posOf S l : Nat) - 1), .bool (decide (posOf S l ≠ 0))]) ∧ Below w.heap.size w w' := by
 have HC := Lib.hid hC; have HCL := Lib.hid hc; have HX := Lib.hid h; have HCK := Lib.hid (check_eq l 60 (Nat.le_refl _)); by_cases hk : chk l = true
 ·have HP := Lib.hid (show posOf S l = numOf S (textB l) by unfold posOf; rw [if_pos hk])
  have HT := Lib.hid (text_eq hk 160 (Nat.le_refl _))
  have HS := Lib.hid (show (textB l).size ≤ maxLen by
   have h1 := join_size l (chk_fine hk).1; have h2 := (chk_fine hk).2.1; have h3 : (textB l).size ≤ 401 * l.length := by rw [← data_length]; exact h1
   simp only [maxLen]; omega)
  rw [hk] at HCK; clear h hC hc hk; go_enter Try.func11, Try.ntmps11; (go_wp2_with (go_at_call 35; go_must (refine (label_Check.calls 60 _ _ l true _ HC.out HCL.out HCK.out).mono ?_; rintro e w1 ⟨rfl, hb1⟩))); have HB1 := Lib.hid hb1; have hx1 := HX.out.below hb1; have HX1 := Lib.hid hx1; have hC1 := Kd.C_drew (Kd.C_below HC.out hb1); have HC1 := Lib.hid hC1; obtain ⟨v, hv, -⟩ := hx1.cells; have hob : w1.drew.cell? ⟨kb, 1, none⟩ = some (.map (some mb)) := blk_cell hv 1; clear hv hb1 hx1 hC1; refine wp_region_noPanic ?_; refine start_ (n := 8) (S := fun w' => w'.cell? ⟨kb, 1, none⟩ = some (.map (some mb))) (ds := []) #[false, false, false, false, false, false, false, false] zk3 rfl rfl hob (fun hHeld => ?_); clear hob; refine pure_ (i := 0) (N := some 14) (v := ?_) (a' := ?_) #[true, false, false, false, false, false, false, false] rfl rfl zk3 (fun _ _ _ h => h) (Or.inl ⟨zk16, ?_⟩) ?_ ?_; rotate_left
  ·exact zk95
  rotate_left
  ·exact zk94
  refine pure_ (i := 1) (N := some 15) (v := ?_) (a' := ?_) #[true, true, false, false, false, false, false, false] rfl rfl zk3 (fun _ _ _ h => h) (Or.inl ⟨zk16, ?_⟩) ?_ ?_; rotate_left
  ·exact zk95
  rotate_left
  ·exact zk94
  refine pure_ (i := 2) (N := some 16) (v := ?_) (a' := ?_) #[true, true, true, false, false, false, false, false] rfl rfl zk3 (fun _ _ _ h => h) (Or.inl ⟨zk16, ?_⟩) ?_ ?_; rotate_left
  ·exact zk95
  rotate_left
  ·exact zk94
  refine take_ (i := 3) (N := some 17) (v := ?_) (a' := ?_) #[true, true, true, true, false, false, false, false] rfl rfl zk3 (fun _ _ _ h => h) (Or.inl ⟨zk16, ?_⟩) hHeld ?_ ?_; rotate_left
  ·exact zk121
  rotate_left
  ·exact zk94
  refine pure_ (i := 4) (N := some 18) (v := ?_) (a' := ?_) #[true, true, true, true, true, false, false, false] rfl rfl zk3 (fun _ _ _ h => h) (Or.inl ⟨zk16, ?_⟩) ?_ ?_; rotate_left
  ·exact zk95
  rotate_left
  ·exact zk94
  refine one_ (i := 5) (N := some 19) #[true, true, true, true, true, true, false, false] rfl rfl zk3 zk30 (fun K hK => ?_); refine goes_ Try.func36 zk3 rfl #[.slice A l.length c] zk16 rfl rfl zk38 ?_; refine (label_Text.calls 160 _ _ l (textB l) w1.drew HC1.out HCL.out HT.out).mono ?_; rintro e w3 ⟨rfl, hb⟩; refine ⟨_, rfl, ?_⟩; have HB3 := Lib.hid (HB1.out.trans ((below_drew (Below.refl w1.heap.size w1)).trans hb |>.mono HB1.out.size)); have hx3 := HX1.out.below ((below_drew (Below.refl w1.heap.size w1)).trans hb); have HX3 := Lib.hid hx3; obtain ⟨v3, hv3, -⟩ := hx3.cells; have hc3 : w3.cell? ⟨kb, 1, none⟩ = some (.map (some mb)) := blk_cell hv3 1; obtain ⟨D, hown, hD⟩ := hx3.map; obtain ⟨n, hlook, hat, hwn⟩ := hown.lookup_int lawS Try.underlying71 Try.underlying3 zk16 (WideMaps.keyOf_string_mk Try.underlying9 HS.out); rw [hD.key] at hat; obtain rfl : n = ((numOf S (textB l) : Nat) : Int) := by injection hat with e; injection e with _ e; exact e.symm
  have HL := Lib.hid hlook; clear hlook hat hwn hown hD hx3 hb hv3; clear hHeld; refine hK.out _ _ hc3 (fun hHeld => ?_); clear hK K; refine norm_ (a' := ?_) ?_ ?_; rotate_left
  ·exact zk112
  refine one_ (i := 6) (N := some 20) #[true, true, true, true, true, true, true, false] rfl rfl zk3 zk30 (fun K hK => ?_); refine value_ (v := .int .i64 ((numOf S (textB l) : Nat) : Int)) (w1 := w3) zk16 rfl ?_ ?_
  ·have hlook := HL.out; simp [execOp, Act.eval, hlook, Result.andThen]
  clear hHeld; refine hK.out _ _ hc3 (fun hHeld => ?_); clear hK K; refine norm_ (a' := ?_) ?_ ?_; rotate_left
  ·exact zk103
  refine pure_ (i := 7) (N := some 6) (v := ?_) (a' := ?_) #[true, true, true, true, true, true, true, true] rfl rfl zk3 (fun _ _ _ h => h) (Or.inl ⟨zk16, ?_⟩) ?_ ?_; rotate_left
  ·exact zk95
  rotate_left
  ·exact zk94
  refine done_ zk3 ?_; refine NoPanic.normal ?_; clear hHeld; go_wp2; go_ret2
  have hn := numOf_le S (textB l); have hS := HX.out.len; refine ⟨?_, HB3.out⟩; rw [HP.out, w64 zk12 zk12]; congr 1; by_cases e : numOf S (textB l) = 0
  ·simp [e]
  ·simp [e, Nat.pos_of_ne_zero e]
 ·have HP := Lib.hid (show posOf S l = 0 by unfold posOf; rw [if_neg hk])
  rw [eq_false_of_ne_true hk] at HCK; clear h hC hc hk; go_enter Try.func11, Try.ntmps11; (go_wp2_with (go_at_call 35; go_must (refine (label_Check.calls 60 _ _ l false _ HC.out HCL.out HCK.out).mono ?_; rintro e w1 ⟨rfl, hb1⟩))); go_ret2
  exact ⟨by rw [HP.out]; rfl, hb1⟩
end Go.Proofs.Ytlkhdbfhnpbbhaa
namespace Go.Proofs.Ytlkhdbfhnpbbhaa
open Go.RowKit Go.Maps Go.Proofs.YtlkhdbfhnpbbhaaW.PrintWords Go.Proofs.YtlkhdbfhnpbbhaaW.PrintLast Go.Proofs.YtlkhdbfhnpbbhaaW.PrintMore Go.Proofs.Ytlkhdbfhnpbbhaa.Ix Go.Proofs.Ytlkhdbfhnpbbhaa.Tx Go.Proofs.Ytlkhdbfhnpbbhaa.Pure
theorem set_at {w : World} {A : Option Addr} {n : Nat} {S : List (List LB)} (h : (Kd.slice 41 k41).C w A n S) (i : Nat) (hi : i < n) :
  ∃ ad A' c', A = some ad ∧ w.cell? (ad.add i) = some (.slice A' (S.getD i []).length c') ∧ (S.getD i []).length ≤ c' ∧ Kd.C k41 w A' (S.getD i []).length (S.getD i []) := by
 obtain ⟨ad, c, e, -, hK, hc⟩ := Kd.C_get h [] (i : Int) zk12 zk12; rw [Int.toNat_natCast] at hK hc; obtain ⟨A', c', rfl, hl, hr⟩ := hK; have := hc 0 _ rfl; rw [show (Kd.slice 41 k41).sz = 1 from rfl, Nat.mul_one, Nat.add_zero] at this; exact ⟨ad, A', c', e, this, hl, hr⟩
end Go.Proofs.Ytlkhdbfhnpbbhaa
namespace Go.Proofs.Ytlkhdbfhnpbbhaa
open Go.RowKit Go.Maps Go.Proofs.YtlkhdbfhnpbbhaaW.PrintWords Go.Proofs.YtlkhdbfhnpbbhaaW.PrintLast Go.Proofs.YtlkhdbfhnpbbhaaW.PrintMore Go.Proofs.Ytlkhdbfhnpbbhaa.Ix Go.Proofs.Ytlkhdbfhnpbbhaa.Tx Go.Proofs.Ytlkhdbfhnpbbhaa.Pure
def hasVal (name value : ByteArray) (l : List LB) : Bool := (lbVal l name).toList == value.toList
set_option maxRecDepth 100000 in
set_option maxHeartbeats 8000000 in
theorem post1_u {w : World} {pn pv : Nat} {name value : ByteArray} (hn : w.cell? ⟨pn, 0, none⟩ = some (.string name)) (hv : w.cell? ⟨pv, 0, none⟩ = some (.string value)) {A : Option Addr} {c : Nat} {l : List LB}
  (hC : Kd.C k41 w A l.length l) (hc : l.length ≤ c) (hl : l.length ≤ 8) :
  Calls Try.prog 41 #[.slice A l.length c, .pointer (some ⟨pn, 0, none⟩), .pointer (some ⟨pv, 0, none⟩)] w fun e w' => e = .returned (.bool (hasVal name value l)) ∧ Below w.heap.size w w' := by
 have HC := Lib.hid (Kd.C_drew hC); have HCL := Lib.hid hc; have HV := Lib.hid (value_eq l name zk12 9 zk12); have HN := Lib.hid (And.intro (World.block_lt_of_cell? w _ hn) (World.block_lt_of_cell? w _ hv)); have HCN := Lib.hid (And.intro hn hv); have hn2 : w.drew.cell? ⟨pn, 0, none⟩ = some (.string name) := hn; have hv2 : w.drew.cell? ⟨pv, 0, none⟩ = some (.string value) := hv; clear hC hc hn hv; go_enter Try.func41, Try.ntmps41; go_wp2; refine wp_region_noPanic ?_; refine start_ (n := 6) (S := fun w' => w'.cell? ⟨pn, 0, none⟩ = some (.string name) ∧ w'.cell? ⟨pv, 0, none⟩ = some (.string value)) (ds := []) #[false, false, false, false, false, false] zk3 rfl rfl ⟨hn2, hv2⟩ (fun hHeld => ?_); clear hn2 hv2; refine pure_ (i := 0) (N := some 5) (v := ?_) (a' := ?_) #[true, false, false, false, false, false] rfl rfl zk3 (fun _ _ _ h => h) (Or.inl ⟨zk16, ?_⟩) ?_ ?_; rotate_left
 ·exact zk95
 rotate_left
 ·exact zk94
 refine take_ (i := 1) (N := some 6) (v := ?_) (a' := ?_) #[true, true, false, false, false, false] rfl rfl zk3 (fun _ _ _ h => h) (Or.inl ⟨zk16, ?_⟩) hHeld ?_ ?_; rotate_left
 ·exact zk117
 rotate_left
 ·exact zk94
 refine take_ (i := 3) (N := some 8) (v := ?_) (a' := ?_) #[true, true, false, true, false, false] rfl rfl zk3 (fun _ _ _ h => h) (Or.inl ⟨zk16, ?_⟩) hHeld ?_ ?_; rotate_left
 ·exact zk117
 rotate_left
 ·exact zk94
 refine one_ (i := 2) (N := some 7) #[true, true, true, true, false, false] rfl rfl zk3 zk30 (fun K hK => ?_); refine goes_ Try.func42 zk3 rfl #[.slice A l.length c, .string name] zk16 rfl rfl zk38 ?_; refine (label_Value.calls 9 _ _ l name (lbVal l name) w.drew HC.out HCL.out HV.out).mono ?_; rintro e w3 ⟨rfl, hb⟩; refine ⟨_, rfl, ?_⟩; have HB3 := Lib.hid ((below_drew (Below.refl w.heap.size w)).trans hb); have hn3 : w3.cell? ⟨pn, 0, none⟩ = some (.string name) := (hb.cell (p := ⟨pn, 0, none⟩) HN.out.1).trans HCN.out.1; have hv3 : w3.cell? ⟨pv, 0, none⟩ = some (.string value) := (hb.cell (p := ⟨pv, 0, none⟩) HN.out.2).trans HCN.out.2; clear hb; clear hHeld; refine hK.out _ _ ⟨hn3, hv3⟩ (fun hHeld => ?_); clear hK K; refine norm_ (a' := ?_) ?_ ?_; rotate_left
 ·show Act.put _ (some 7) _ = _; simp only [Act.put, List.setIfInBounds_toArray, List.set_cons_zero, List.set_cons_succ, i64_w, i32_w]; rfl
 refine pure_ (i := 4) (N := some 9) (v := ?_) (a' := ?_) #[true, true, true, true, true, false] rfl rfl zk3 (fun _ _ _ h => h) (Or.inl ⟨zk16, ?_⟩) ?_ ?_; rotate_left
 ·exact zk95
 rotate_left
 ·exact zk94
 refine pure_ (i := 5) (N := some 4) (v := ?_) (a' := ?_) #[true, true, true, true, true, true] rfl rfl zk3 (fun _ _ _ h => h) (Or.inl ⟨zk16, ?_⟩) ?_ ?_; rotate_left
 ·exact zk95
 rotate_left
 ·exact zk94
 refine done_ zk3 ?_; refine NoPanic.normal ?_; clear hHeld; go_wp2; go_ret
 exact ⟨rfl, HB3.out⟩
def sel (q : List LB → Bool) (S : List (List LB)) (i : Nat) : List Int := ((List.range i).filter (fun j => q (S.getD j []))).map (fun j => ((j : Nat) : Int))
theorem sel_succ (q : List LB → Bool) (S : List (List LB)) (i : Nat) : sel q S (i + 1) = sel q S i ++ if q (S.getD i []) = true then [((i : Nat) : Int)] else [] := by
 unfold sel; rw [List.range_succ, List.filter_append, List.map_append]; congr 1; by_cases h : q (S.getD i []) = true
 ·rw [if_pos h]; simp only [List.filter_cons, h, if_true, List.filter_nil, List.map_cons, List.map_nil]
 ·rw [if_neg h]; simp only [List.filter_cons, h, if_false, List.filter_nil, List.map_nil]; rfl
theorem sel_len (q : List LB → Bool) (S : List (List LB)) (i : Nat) : (sel q S i).length ≤ i := by
 unfold sel; rw [List.length_map]; exact Nat.le_trans (List.length_filter_le _ _) zk30
set_option maxRecDepth 100000 in
set_option maxHeartbeats 8000000 in
theorem those_u {f : Nat → Prop} {w : World} {base kb mb : Nat} {S : List (List LB)} (h : IX f w base kb mb S) (hS : S.length < 4096) {pn pv : Nat} {name value : ByteArray}
  (hn : w.cell? ⟨pn, 0, none⟩ = some (.string name)) (hv : w.cell? ⟨pv, 0, none⟩ = some (.string value)) {k : Nat} (hR : post_Rises.f k (sel (hasVal name value) S S.length) = some true) :
  Calls Try.prog 40 #[.pointer (some ⟨kb, 0, none⟩), .func (.func 41) #[] #[.pointer (some ⟨pn, 0, none⟩), .pointer (some ⟨pv, 0, none⟩)]] w
   fun e w' => ∃ v, e = .returned v ∧ w'.ownsRow w.heap.size 3 1 v (sel (hasVal name value) S S.length).length ((sel (hasVal name value) S S.length).map (.int .i64)) ∧ Below w.heap.size w w' := by
 have HX := Lib.hid h; have HRI := Lib.hid hR; have HN := Lib.hid (And.intro (World.block_lt_of_cell? w _ hn) (World.block_lt_of_cell? w _ hv)); have HCN := Lib.hid (And.intro hn hv); obtain ⟨v, hv0, hR0⟩ := h.cells; obtain ⟨A, c, rfl, hcc, hCS⟩ := Kd.R_reads hR0; have HCS := Lib.hid hCS; have c0 := blk_cell hv0 0; obtain ⟨q, hq⟩ : ∃ q, hasVal name value = q := ⟨_, rfl⟩
 have HQ := Lib.hid hq; rw [hq] at HRI ⊢; clear h hR hn hv hR0 hCS hv0 hq; go_enter Try.func40, Try.ntmps40; go_wp2
 go_loopw [5, 16] (fun v5 v16 wr => ∃ i : Nat, i ≤ S.length ∧ v16 = .int .i64 (i : Int) ∧ Kd.R (Kd.int .i64) 3 wr w.heap.size (fun _ => True) v5 (sel q S i) ∧ Below w.heap.size w wr)
  (fun _ v16 _ => S.length - (intOf v16).toNat)
 case atStart => exact ⟨0, Nat.zero_le _, rfl, Kd.R_nil _ _ _ _ _, Below.refl _ _⟩
 case round =>
  obtain ⟨i, hi, rfl, hr, hb⟩ := hrel; by_cases hlt : i < S.length
  ·obtain ⟨ad, A', c', rfl, hcell, hle, hC'⟩ := set_at HCS.out i hlt
   have hc2 := (hb.cell (World.block_lt_of_cell? w _ hcell)).trans hcell
   have hs8 : (S.getD i []).length ≤ 8 := by
    have : S.getD i [] ∈ S := zk47
    exact zk130
   have hsl := sel_len q S i; have hsu := sel_succ q S i; have hC2 := Kd.C_below hC' hb; obtain ⟨x, hx⟩ : ∃ x, S.getD i [] = x := ⟨_, rfl⟩
   rw [hx] at hc2 hle hC2 hs8 hsu; have hqx : hasVal name value x = q x := by rw [HQ.out]
   have HC2 := Lib.hid hC2; have HLE := Lib.hid hle; have HB := Lib.hid hb; have hnn := (hb.cell (p := ⟨pn, 0, none⟩) HN.out.1).trans HCN.out.1; have hvv := (hb.cell (p := ⟨pv, 0, none⟩) HN.out.2).trans HCN.out.2; have HP := Lib.hid (post1_u hnn hvv hC2 hle hs8); rw [hqx] at HP; have HR := Lib.hid hr; have HSU := Lib.hid hsu; clear hcell hC' hC2 hle hb hnn hvv hr hx hqx hsu; by_cases hqi : q x = true
   ·rw [hqi] at HP HSU
    go_wp2_with (first
     | (go_at_call 41; go_must (refine HP.out.mono ?_; rintro e w1 ⟨rfl, hb1⟩; have HB1 := Lib.hid hb1; have HR1 := Lib.hid (Kd.R_below HR.out hb1); clear hb1))
     | (at_builtin; go_must (refine Kd.R_append (Kd.int .i64) (w0 := w) w.heap.size rfl (.tmp 24) (.tmp 26) 38 3 (.int .i64 0) 8 rfl Try.underlying38 infoI rfl zk40 zk40 u5 (sel q S i) ((i : Nat) : Int) [.int .i64 ((i : Nat) : Int)] (fun _ => True) (fun _ => False) rfl rfl rfl (fun _ h => h.elim) (fun _ _ => trivial) HR1.out (HB.out.trans (HB1.out.mono HB.out.size)) (Nat.le_trans HB.out.size HB1.out.size) zk12 ?_; intro v1 w2 hr2 hb2 _ _; have HR2 := Lib.hid hr2; have HB2 := Lib.hid hb2; clear hr2 hb2)))
    go_roundw
    case rel => exact ⟨i + 1, hlt, zk30, by rw [HSU.out]; simpa using HR2.out, HB2.out⟩
    case measure => simp [intOf]; omega
   ·rw [eq_false_of_ne_true hqi] at HP HSU
    go_wp2_with (go_at_call 41; go_must (refine HP.out.mono ?_; rintro e w1 ⟨rfl, hb1⟩; have HB1 := Lib.hid hb1; have HR1 := Lib.hid (Kd.R_below HR.out hb1); clear hb1))
    go_roundw
    case rel => exact ⟨i + 1, hlt, zk30, by rw [HSU.out]; simpa using HR1.out, HB.out.trans (HB1.out.mono HB.out.size)⟩
    case measure => simp [intOf]; omega
  ·obtain rfl : i = S.length := by omega
   obtain ⟨A', c', rfl, hle, hC'⟩ := Kd.R_reads hr; have hsl := sel_len q S S.length; have HC2 := Lib.hid hC'; have HLE := Lib.hid hle; have HB := Lib.hid hb; clear hr hle hC' hb
   go_wp2_with (first
    | (go_at_call 59; go_must (refine (from_u zk58 HLE.out HRI.out zk12).mono ?_; rintro e w1 ⟨ob, kb1, rfl, hi1, hb1⟩; have HI1 := Lib.hid hi1; have HB1 := Lib.hid hb1; clear hi1 hb1))
    | (go_at_call 58; go_must (refine (list_u HI1.out zk12).mono ?_; rintro e w2 ⟨v2, rfl, hr2, hb2⟩; have HR2 := Lib.hid hr2; have HB2 := Lib.hid hb2; clear hr2 hb2)))
   have hB1 : Below w.heap.size w w1 := by
    first
     | exact HB.out.trans (HB1.out.mono HB.out.size)
     | exact HB.out.trans (((below_drew (Below.refl _ _)).trans HB1.out).mono HB.out.size)
     | exact HB.out.trans (((pw_below_drewN (Below.refl _ _) _).trans HB1.out).mono HB.out.size)
   go_ret
   exact ⟨v2, rfl, own_weaken HR2.out hB1.size, hB1.trans (HB2.out.mono hB1.size)⟩
set_option maxRecDepth 100000 in
set_option maxHeartbeats 8000000 in
theorem ipost_u {f : Nat → Prop} {w : World} {base kb mb : Nat} {S : List (List LB)} (h : IX f w base kb mb S) (hS : S.length < 4096) (name value : ByteArray) {k : Nat} (hR : post_Rises.f k (sel (hasVal name value) S S.length) = some true) :
  Calls Try.prog 18 #[.pointer (some ⟨kb, 0, none⟩), .string name, .string value] w
   fun e w' => ∃ v, e = .returned v ∧ w'.ownsRow w.heap.size 3 1 v (sel (hasVal name value) S S.length).length ((sel (hasVal name value) S S.length).map (.int .i64)) ∧ Below w.heap.size w w' := by
 have hb : Below w.heap.size w ((w.alloc (.cells #[.string name] 9)).alloc (.cells #[.string value] 9)) := ((Below.refl _ w).alloc (Nat.le_refl _) _).alloc zk30 _; have hn : Boxed ((w.alloc (.cells #[.string name] 9)).alloc (.cells #[.string value] 9)) w.heap.size 9 (.string name) := (Boxed.new w _ _).alloc _
 have hv : Boxed ((w.alloc (.cells #[.string name] 9)).alloc (.cells #[.string value] 9)) (w.heap.size + 1) 9 (.string value) := by
  have := Boxed.new (w.alloc (.cells #[.string name] 9)) 9 (.string value); rw [World.size_alloc] at this; exact this
 have HT := Lib.hid (those_u (h.below hb) hS hn.cell hv.cell hR); have HB := Lib.hid hb; have hmf : ∀ (fn : Fn) (first cap : Array Value) (w : World), (Instr.makeFunc fn first cap).run Try.prog w = .ok (.func fn first cap) w := fun _ _ _ _ => rfl; clear h hb hn hv hR; go_enter Try.func18, Try.ntmps18; (go_wp2_with (go_at_call 40; go_must (refine HT.out.mono ?_; rintro e w1 ⟨v1, rfl, hr1, hb1⟩; have HR1 := Lib.hid hr1; have HB1 := Lib.hid hb1; clear hr1 hb1))); go_ret
 exact ⟨v1, rfl, own_weaken HR1.out HB.out.size, HB.out.trans (HB1.out.mono HB.out.size)⟩
end Go.Proofs.Ytlkhdbfhnpbbhaa
namespace Go.Proofs.Ytlkhdbfhnpbbhaa
open Go.RowKit Go.Maps Go.Proofs.YtlkhdbfhnpbbhaaW.PrintWords Go.Proofs.YtlkhdbfhnpbbhaaW.PrintLast Go.Proofs.YtlkhdbfhnpbbhaaW.PrintMore Go.Proofs.Ytlkhdbfhnpbbhaa.Ix Go.Proofs.Ytlkhdbfhnpbbhaa.Tx Go.Proofs.Ytlkhdbfhnpbbhaa.Pure
theorem infoL : (Try.prog.info? 23).map (fun i => (i.zero, i.size, i.bytes)) = some (some (.slice none 0 0), 1, 24) := by kernel_rfl
set_option maxRecDepth 100000 in
set_option maxHeartbeats 8000000 in
theorem iid_new {f : Nat → Prop} {w : World} {base kb mb : Nat} {S : List (List LB)} (h : IX f w base kb mb S) (hbs : base ≤ w.heap.size) (hff : ∀ k, w.heap.size ≤ k → f k) {A : Option Addr} {c : Nat} {l : List LB} {bl : Nat} {okl : Nat → Prop} (hl : Kd.R k41 41 w bl okl (.slice A l.length c) l)
  (hk : chk l = true) (hnew : numOf S (textB l) = 0) (hlt : S.length < 4096) :
  Calls Try.prog 22 #[.pointer (some ⟨kb, 0, none⟩), .slice A l.length c] w fun e w' => e = .returned (.tuple #[.int .i64 (S.length : Nat), .int .i64 0]) ∧ IX f w' base kb mb (S ++ [l]) ∧ Below base w w' ∧ Far f w w' := by
 have hc := (Kd.R_reads' hl).2.1; have hC := (Kd.R_reads' hl).2.2; have HLR := Lib.hid hl; have HX := Lib.hid h; have HC := Lib.hid hC; have HCL := Lib.hid hc; have HCK := Lib.hid (check_eq l 60 (Nat.le_refl _)); have HK := Lib.hid hk; have HNW := Lib.hid hnew; have HBS := Lib.hid hbs; have HFF := Lib.hid hff; have hp0 : posOf S l = 0 := by unfold posOf; rw [if_pos hk]; exact hnew
 have hs8 := (chk_fine hk).2.1; have HPL := Lib.hid (show api_Label.f l = some l by unfold api_Label.f; rw [if_pos zk51]; simp); have HT := Lib.hid (text_eq hk 160 (Nat.le_refl _))
 have HS := Lib.hid (show (textB l).size ≤ maxLen by
  have h1 := join_size l (chk_fine hk).1; have h3 : (textB l).size ≤ 401 * l.length := by rw [← data_length]; exact h1
  simp only [maxLen]; omega)
 have HFD := fun (W : World) (hx : IX f W base kb mb S) (hcw : Kd.C k41 W A l.length l) => ifind_u hx hcw hc; rw [hp0] at HFD; have HF := Lib.hid HFD; rw [hk] at HCK; have d1 : decide ((4096 : Int) ≤ (S.length : Int)) = false := zk51
 clear h hC hc hk hnew hp0 HFD hl hbs hff; go_enter Try.func22, Try.ntmps22
 go_wp2_with (first
  | (go_at_call 35; go_must (refine (label_Check.calls 60 _ _ l true _ HC.out HCL.out HCK.out).mono ?_; rintro e w1 ⟨rfl, hb1⟩; have HB1 := Lib.hid hb1; clear hb1))
  | (go_at_call 11; go_must (refine (HF.out _ (HX.out.below HB1.out) (Kd.C_below HC.out HB1.out)).mono ?_; rintro e w2 ⟨rfl, hb2⟩; have HB2 := Lib.hid (HB1.out.trans (hb2.mono HB1.out.size)); have hx2 := HX.out.below HB2.out; obtain ⟨v0, hv0, hr0⟩ := hx2.cells; obtain ⟨A0, c0_, rfl, hcc0, -⟩ := Kd.R_reads hr0; have cc0 := blk_cell hv0 0; have HV0 := Lib.hid hv0; have HR0 := Lib.hid hr0; have HX2 := Lib.hid hx2; clear hb2 hv0 hr0 hx2)))
 have hc8 : w2.drew.cell? ⟨kb, 0, none⟩ = some (.slice A0 S.length c0_) := cc0; clear cc0; refine wp_region_noPanic ?_; refine start_ (n := 12) (S := fun w' => w'.cell? ⟨kb, 0, none⟩ = some (.slice A0 S.length c0_)) (ds := [11]) #[false, false, false, false, false, false, false, false, false, false, false, false] zk3 rfl rfl hc8 (fun hHeld => ?_); clear hc8; refine pure_ (i := 0) (N := some 29) (v := ?_) (a' := ?_) #[true, false, false, false, false, false, false, false, false, false, false, false] rfl rfl zk3 (fun _ _ _ h => h) (Or.inl ⟨zk16, ?_⟩) ?_ ?_; rotate_left
 ·exact zk95
 rotate_left
 ·exact zk94
 refine pure_ (i := 1) (N := some 30) (v := ?_) (a' := ?_) #[true, true, false, false, false, false, false, false, false, false, false, false] rfl rfl zk3 (fun _ _ _ h => h) (Or.inl ⟨zk16, ?_⟩) ?_ ?_; rotate_left
 ·exact zk95
 rotate_left
 ·exact zk94
 refine pure_ (i := 2) (N := some 31) (v := ?_) (a' := ?_) #[true, true, true, false, false, false, false, false, false, false, false, false] rfl rfl zk3 (fun _ _ _ h => h) (Or.inl ⟨zk16, ?_⟩) ?_ ?_; rotate_left
 ·exact zk95
 rotate_left
 ·exact zk94
 refine pure_ (i := 3) (N := some 32) (v := ?_) (a' := ?_) #[true, true, true, true, false, false, false, false, false, false, false, false] rfl rfl zk3 (fun _ _ _ h => h) (Or.inl ⟨zk16, ?_⟩) ?_ ?_; rotate_left
 ·exact zk95
 rotate_left
 ·exact zk94
 refine take_ (i := 4) (N := some 33) (v := ?_) (a' := ?_) #[true, true, true, true, true, false, false, false, false, false, false, false] rfl rfl zk3 (fun _ _ _ h => h) (Or.inl ⟨zk16, ?_⟩) hHeld ?_ ?_; rotate_left
 ·exact zk121
 rotate_left
 ·exact zk94
 refine pure_ (i := 5) (N := some 34) (v := ?_) (a' := ?_) #[true, true, true, true, true, true, false, false, false, false, false, false] rfl rfl zk3 (fun _ _ _ h => h) (Or.inl ⟨zk16, ?_⟩) ?_ ?_; rotate_left
 ·exact zk95
 rotate_left
 ·exact zk94
 refine one_ (i := 6) (N := some 35) #[true, true, true, true, true, true, true, false, false, false, false, false] rfl rfl zk3 zk30 (fun K hK => ?_); refine goes_ Try.func39 zk3 rfl #[.slice A l.length c] zk16 rfl rfl zk38 ?_; refine (api_Label.calls _ _ l l w2.drew (Kd.C_drew (Kd.C_below HC.out HB2.out)) HCL.out HPL.out).mono ?_; rintro e w3 ⟨v1, rfl, hr1, hb⟩; refine ⟨_, rfl, ?_⟩; obtain ⟨A1, c1, rfl⟩ := Kd.R_slice hr1; have hbb : Below w2.heap.size w2 w3 := (below_drew (Below.refl _ _)).trans hb; have HBB := Lib.hid hbb; have hx3 := HX2.out.below hbb; have HX3 := Lib.hid hx3; have hv3 : w3.heap[kb]? = some (.cells #[.slice A0 S.length c0_, .map (some mb)] 73 (0, 0)) := (hbb.block kb HX2.out.klt).trans HV0.out; have hc3 := blk_cell hv3 0; have HV3 := Lib.hid hv3; have HR3 := Lib.hid (Kd.R_below HR0.out hbb); have HR1 := Lib.hid (Kd.R_bound hr1); have HB3 := Lib.hid (HB2.out.trans (hbb.mono HB2.out.size)); clear hr1 hb hbb hx3 hv3; clear hHeld; refine hK.out _ _ hc3 (fun hHeld => ?_); clear hK K; refine norm_ (a' := ?_) ?_ ?_; rotate_left
 ·show Act.put _ (some 35) _ = _; simp only [Act.put, List.setIfInBounds_toArray, List.set_cons_zero, List.set_cons_succ, i64_w, i32_w]; rfl
 refine one_ (i := 7) (N := some 36) #[true, true, true, true, true, true, true, true, false, false, false, false] rfl rfl zk3 zk30 (fun K hK => ?_); refine value_ (v := .slice (some ⟨w3.heap.size, 0, none⟩) 1 1) (w1 := w3.alloc (.cells #[.slice A1 l.length c1] 23)) zk16 rfl ?_ ?_
 ·go_simp
 clear hHeld; refine hK.out _ _ (blk_cell (blk_alloc HV3.out _) 0) (fun hHeld => ?_); clear hK K; refine norm_ (a' := ?_) ?_ ?_; rotate_left
 ·show Act.put _ (some 36) _ = _; simp only [Act.put, List.setIfInBounds_toArray, List.set_cons_zero, List.set_cons_succ, i64_w, i32_w]; rfl
 refine one_ (i := 8) (N := some 37) #[true, true, true, true, true, true, true, true, true, false, false, false] rfl rfl zk3 zk30 (fun K hK => ?_); refine Kd.R_append_step (Kd.slice 41 k41) (w0 := w) base zk16 (.tmp 33) (.tmp 36) 22 23 (.slice none 0 0) 24 rfl Try.underlying22 infoL rfl zk40 zk40 (.slice A0 S.length c0_) S l [.slice A1 l.length c1] (fun k => f k ∧ k ≠ kb ∧ k ≠ mb) (fun k => w2.heap.size ≤ k) rfl rfl ?hp ?hok ?hfr HR3.out ?hbw ?hbz ?hln ?_
 case hp => exact Kd.M_row (Kd.R_lower (Kd.R_mono HR1.out (fun k hk => hk.2.1)) (Nat.le_trans HBS.out HB2.out.size))
 case hok => exact fun k hk => ⟨⟨HFF.out k (Nat.le_trans HB2.out.size hk), by have := HX2.out.klt; omega, by have := HX2.out.mlt; omega⟩, fun e => by obtain ⟨inner, ho⟩ := Kd.R_own HR0.out; have := own_lt ho k e.symm; omega⟩
 case hfr => exact fun k hk => ⟨HFF.out k (Nat.le_trans HB3.out.size hk), by have := HX3.out.klt; omega, by have := HX3.out.mlt; omega⟩
 case hbw => exact HB3.out.mono HBS.out
 case hbz => exact Nat.le_trans HBS.out HB3.out.size
 case hln => omega
 intro v' w4 hr4 hb4 hg4 hat4; have hv4 : w4.heap[kb]? = some (.cells #[.slice A0 S.length c0_, .map (some mb)] 73 (0, 0)) := (hg4.block kb HX3.out.klt (fun e => (HR0.out.1 kb e.symm).2.1 rfl)).trans HV3.out; have HV4 := Lib.hid hv4; have HR4 := Lib.hid hr4; have HB4 := Lib.hid hb4; have HG4 := Lib.hid hg4; have HZ4 := Lib.hid ((Far.of_below (f := f) HB3.out).grown hg4 (fun k e => (HR3.out.1 k e).1)); have hc4 := blk_cell hv4 0; obtain ⟨A4, c4, rfl⟩ := Kd.R_slice hr4; clear hr4 hb4 hg4 hat4 hHeld hv4; refine hK.out _ _ hc4 (fun hHeld => ?_); clear hK K; refine norm_ (a' := ?_) ?_ ?_; rotate_left
 ·show Act.put _ (some 37) _ = _; simp only [Act.put, List.setIfInBounds_toArray, List.set_cons_zero, List.set_cons_succ, i64_w, i32_w]; rfl
 refine pure_ (i := 9) (N := some 38) (v := ?_) (a' := ?_) #[true, true, true, true, true, true, true, true, true, true, false, false] rfl rfl zk3 (fun _ _ _ h => h) (Or.inl ⟨zk16, ?_⟩) ?_ ?_; rotate_left
 ·exact zk95
 rotate_left
 ·exact zk94
 refine pure_ (i := 10) (N := some 39) (v := ?_) (a' := ?_) #[true, true, true, true, true, true, true, true, true, true, true, false] rfl rfl zk3 (fun _ _ _ h => h) (Or.inl ⟨zk16, ?_⟩) ?_ ?_; rotate_left
 ·exact zk95
 rotate_left
 ·exact zk94
 refine last_ (i := 11) (N := none) #[true, true, true, true, true, true, true, true, true, true, true, true] rfl rfl zk3 zk40 (fun K hK => ?_); have s0 := blk_cell HV4.out 0; have s1 := blk_frozen HV4.out 0; refine skip_ (w1 := ?_) zk16 rfl ?_ ?_; rotate_left
 ·go_simp; rfl
 refine hK.out _ _ ?_; clear hK K s0 s1 hc4; refine done_ zk3 ?_; refine NoPanic.normal ?_; have hsl : (S ++ [l]).length = S.length + 1 := zk30
 have hv5 := blk_put HV4.out 0 (.slice A4 (S.length + 1) c4) rfl; have hr5 := Kd.R_far (p := ⟨kb, 0, none⟩) (hsl ▸ HR4.out) (fun k hk => hk.2.1) (.slice A4 (S.length + 1) c4); have hb5 := HB4.out.setCell (p := ⟨kb, 0, none⟩) HX.out.kge (.slice A4 (S.length + 1) c4); have hz5 := HZ4.out.setCell (p := ⟨kb, 0, none⟩) HX.out.fk (.slice A4 (S.length + 1) c4); have hl3 := Kd.R_bound (Kd.R_below (Kd.R_below HLR.out HB2.out) HBB.out)
 have hty : ∀ k : Nat, (∃ q, q ∈ 41 :: (k41).E ∧ ∃ cells, w3.heap[k]? = some (Obj.cells cells q (0, 0))) → ∀ (t : Nat) cs, w3.heap[k]? = some (Obj.cells cs t (0, 0)) → t = 41 := by
  rintro k ⟨q, hq, cells, hc⟩ t cs ht; rw [hc] at ht
  injection ht with ht
  injection ht with _ ht
  rw [← ht]; simpa [show (k41).E = [] from rfl] using hq
 have hl4 := Kd.R_grown hl3 HG4.out (fun k hk e => by
  obtain ⟨inner, ho⟩ := Kd.R_own HR3.out; obtain ⟨cs, hcs⟩ := own_typed ho k e.symm; have := hty k hk.2.2.2 _ _ hcs
  exact absurd this zk40)
 have hl5 := Kd.R_far (p := ⟨kb, 0, none⟩) hl4 (fun k hk e => by
  have e' : k = kb := e; rw [e'] at hk
  exact absurd (hty kb hk.2.2.2 _ _ HV3.out) zk40) (.slice A4 (S.length + 1) c4)
 obtain ⟨D, hown, hD⟩ := HX3.out.map
 have hm5 : (w4.setCell ⟨kb, 0, none⟩ (.slice A4 (S.length + 1) c4)).heap[mb]? = w3.heap[mb]? :=
  (Below.heap_setCell w4 ⟨kb, 0, none⟩ _ mb (fun e => HX.out.ne e.symm)).trans (HG4.out.block mb HX3.out.mlt (fun e => (HR3.out.1 mb e.symm).2.2 rfl))
 have hown5 : (w4.setCell ⟨kb, 0, none⟩ (.slice A4 (S.length + 1) c4)).ownsMap Try.prog 9 (plainElem Try.prog 3) mb S.length D := by
  obtain ⟨es, clock, h1, h2⟩ := hown; exact ⟨es, clock, hm5.trans h1, h2⟩
 obtain ⟨w5, hw5⟩ : ∃ w5, w4.setCell ⟨kb, 0, none⟩ (.slice A4 (S.length + 1) c4) = w5 := ⟨_, rfl⟩
 rw [hw5] at hv5 hr5 hb5 hz5 hl5 hown5 ⊢; have HV5 := Lib.hid hv5; have HR5 := Lib.hid hr5; have HB5 := Lib.hid hb5; have HZ5 := Lib.hid hz5; have HC5 := Lib.hid (Kd.C_drew (Kd.R_reads' hl5).2.2); have HO5 := Lib.hid hown5; have HD := Lib.hid hD; have HW5 := Lib.hid hw5; rw [hsl]; have hc9 : w5.drew.cell? ⟨kb, 0, none⟩ = some (.slice A4 (S.length + 1) c4) ∧ w5.drew.cell? ⟨kb, 1, none⟩ = some (.map (some mb)) := ⟨blk_cell hv5 0, blk_cell hv5 1⟩
 clear hv5 hr5 hb5 hz5 hl3 hty hl4 hl5 hown hD hm5 hown5 hw5; go_wp2; refine wp_region_noPanic ?_; refine start_ (n := 12) (S := fun w' => w'.cell? ⟨kb, 0, none⟩ = some (.slice A4 (S.length + 1) c4) ∧ w'.cell? ⟨kb, 1, none⟩ = some (.map (some mb))) (ds := [11]) #[false, false, false, false, false, false, false, false, false, false, false, false] zk3 rfl rfl hc9 (fun hHeld => ?_); clear hc9; refine pure_ (i := 0) (N := some 40) (v := ?_) (a' := ?_) #[true, false, false, false, false, false, false, false, false, false, false, false] rfl rfl zk3 (fun _ _ _ h => h) (Or.inl ⟨zk16, ?_⟩) ?_ ?_; rotate_left
 ·exact zk95
 rotate_left
 ·exact zk94
 refine pure_ (i := 1) (N := some 41) (v := ?_) (a' := ?_) #[true, true, false, false, false, false, false, false, false, false, false, false] rfl rfl zk3 (fun _ _ _ h => h) (Or.inl ⟨zk16, ?_⟩) ?_ ?_; rotate_left
 ·exact zk95
 rotate_left
 ·exact zk94
 refine pure_ (i := 2) (N := some 42) (v := ?_) (a' := ?_) #[true, true, true, false, false, false, false, false, false, false, false, false] rfl rfl zk3 (fun _ _ _ h => h) (Or.inl ⟨zk16, ?_⟩) ?_ ?_; rotate_left
 ·exact zk95
 rotate_left
 ·exact zk94
 refine take_ (i := 3) (N := some 43) (v := ?_) (a' := ?_) #[true, true, true, true, false, false, false, false, false, false, false, false] rfl rfl zk3 (fun _ _ _ h => h) (Or.inl ⟨zk16, ?_⟩) hHeld ?_ ?_; rotate_left
 ·exact zk117
 rotate_left
 ·exact zk94
 refine pure_ (i := 4) (N := some 44) (v := ?_) (a' := ?_) #[true, true, true, true, true, false, false, false, false, false, false, false] rfl rfl zk3 (fun _ _ _ h => h) (Or.inl ⟨zk16, ?_⟩) ?_ ?_; rotate_left
 ·exact zk95
 rotate_left
 ·exact zk94
 refine pure_ (i := 6) (N := some 46) (v := ?_) (a' := ?_) #[true, true, true, true, true, false, true, false, false, false, false, false] rfl rfl zk3 (fun _ _ _ h => h) (Or.inl ⟨zk16, ?_⟩) ?_ ?_; rotate_left
 ·exact zk95
 rotate_left
 ·exact zk94
 refine pure_ (i := 7) (N := some 47) (v := ?_) (a' := ?_) #[true, true, true, true, true, false, true, true, false, false, false, false] rfl rfl zk3 (fun _ _ _ h => h) (Or.inl ⟨zk16, ?_⟩) ?_ ?_; rotate_left
 ·exact zk95
 rotate_left
 ·exact zk94
 refine pure_ (i := 8) (N := some 48) (v := ?_) (a' := ?_) #[true, true, true, true, true, false, true, true, true, false, false, false] rfl rfl zk3 (fun _ _ _ h => h) (Or.inl ⟨zk16, ?_⟩) ?_ ?_; rotate_left
 ·exact zk95
 rotate_left
 ·exact zk94
 refine take_ (i := 9) (N := some 49) (v := ?_) (a' := ?_) #[true, true, true, true, true, false, true, true, true, true, false, false] rfl rfl zk3 (fun _ _ _ h => h) (Or.inl ⟨zk16, ?_⟩) hHeld ?_ ?_; rotate_left
 ·exact zk117
 rotate_left
 ·exact zk94
 refine pure_ (i := 10) (N := some 50) (v := ?_) (a' := ?_) #[true, true, true, true, true, false, true, true, true, true, true, false] rfl rfl zk3 (fun _ _ _ h => h) (Or.inl ⟨zk16, ?_⟩) ?_ ?_; rotate_left
 ·exact zk95
 rotate_left
 ·exact zk94
 refine one_ (i := 5) (N := some 45) #[true, true, true, true, true, true, true, true, true, true, true, false] rfl rfl zk3 zk30 (fun K hK => ?_); refine goes_ Try.func36 zk3 rfl #[.slice A l.length c] zk16 rfl rfl zk38 ?_; refine (label_Text.calls 160 _ _ l (textB l) w5.drew HC5.out HCL.out HT.out).mono ?_; rintro e w6 ⟨rfl, hb⟩; refine ⟨_, rfl, ?_⟩; have hbb : Below w5.heap.size w5 w6 := (below_drew (Below.refl _ _)).trans hb; have hk5 := (Array.getElem?_eq_some_iff.1 HV5.out).1; have hv6 : w6.heap[kb]? = some (.cells #[.slice A4 (S.length + 1) c4, .map (some mb)] 73 (0, 0)) := (hbb.block kb hk5).trans HV5.out; have hr6 := Kd.R_below HR5.out hbb
 have hown6 : w6.ownsMap Try.prog 9 (plainElem Try.prog 3) mb S.length D := by
  have hlt5 := HO5.out.lt; obtain ⟨es, clock, h1, h2⟩ := HO5.out; exact ⟨es, clock, (hbb.block mb hlt5).trans h1, h2⟩
 have wf : (Lit.int .i64 ((S.length : Int) + 1)).wf = true := by
  have e1 : IntKind.i64.min = -9223372036854775808 := zk40
  have e2 : IntKind.i64.max = 9223372036854775807 := zk40
  simp only [Lit.wf, e1, e2, Bool.and_eq_true, decide_eq_true_eq]; omega
 obtain ⟨w7, hrun7, hown7, hg7⟩ := hown6.update lawS Try.underlying71 zk81 (WideMaps.keyOf_string_mk Try.underlying9 HS.out) (plainElem_int Try.underlying3 wf); have HTD := Lib.hid (hown6.tidy lawS); have HRUN := Lib.hid hrun7; have HO7 := Lib.hid hown7; have HG7 := Lib.hid hg7; have HV6 := Lib.hid hv6; have HR6 := Lib.hid hr6; have HB6 := Lib.hid hbb; have hc6a := blk_cell hv6 0; have hc6b := blk_cell hv6 1; clear hb hbb hk5 hv6 hr6 hown6 wf hrun7 hown7 hg7; clear hHeld; refine hK.out _ _ ⟨hc6a, hc6b⟩ (fun hHeld => ?_); clear hK K; refine norm_ (a' := ?_) ?_ ?_; rotate_left
 ·exact zk102
 refine last_ (i := 11) (N := none) #[true, true, true, true, true, true, true, true, true, true, true, true] rfl rfl zk3 zk40 (fun K hK => ?_); refine skip_ (w1 := w7) zk16 rfl ?_ ?_
 ·have hrun := HRUN.out; simp [execOp, Act.eval, hrun, Result.andThen]
 refine hK.out _ _ ?_; clear hK K hc6a hc6b; refine done_ zk3 ?_; refine NoPanic.normal ?_; have hv7 := (HG7.out.block kb (by have := HV6.out; exact (Array.getElem?_eq_some_iff.1 this).1) (fun e => HX.out.ne (by injection e))).trans HV6.out; have hr7 := Kd.R_grown HR6.out HG7.out (fun k hk e => hk.2.2 (by injection e))
 have hx7 : IX f w7 base kb mb (S ++ [l]) := by
  refine ⟨HX.out.ne, ⟨_, hv7, ?_⟩, ⟨D.put (.string (textB l).data.toList) (.lit (.int .i64 ((S.length : Int) + 1))), ?_, ?_⟩, ?_, zk51, HX.out.kge, HX.out.mge, HX.out.fk, HX.out.fm⟩
  ·rw [show Value.slice A4 (S.length + 1) c4 = .slice A4 (S ++ [l]).length c4 by simp]; rw [← hsl] at hr7; exact hr7
  ·rw [hsl]; exact HO7.out
  ·have := HD.out.put HTD.out HNW.out; rw [show ((S.length + 1 : Nat) : Int) = (S.length : Int) + 1 by omega] at this; exact this
  ·intro s hs
   rcases List.mem_append.1 hs with hs | hs
   ·exact HX.out.good s hs
   ·rw [List.mem_singleton.1 hs]; exact HK.out
 have hb6 : Below base w w6 := HB5.out.trans (HB6.out.mono (Nat.le_trans HBS.out HB5.out.size)); have hb7 : Below base w w7 := hb6.grown HG7.out (Nat.le_trans HBS.out hb6.size) (fun k e => by cases e; exact HX.out.mge); have cc7 := blk_cell hv7 0; have HX7 := Lib.hid hx7; have HB7 := Lib.hid hb7; have HZ7 := Lib.hid ((HZ5.out.trans (Far.of_below HB6.out)).grown HG7.out (fun k e => by cases e; exact HX.out.fm)); clear hv7 hr7 hx7 hb7 hb6; go_wp2; go_ret2
 exact ⟨zk30, HX7.out, HB7.out, HZ7.out⟩
end Go.Proofs.Ytlkhdbfhnpbbhaa
namespace Go.Proofs.Ytlkhdbfhnpbbhaa
open Go.RowKit Go.Maps Go.Proofs.YtlkhdbfhnpbbhaaW.PrintWords Go.Proofs.YtlkhdbfhnpbbhaaW.PrintLast Go.Proofs.YtlkhdbfhnpbbhaaW.PrintMore Go.Proofs.Ytlkhdbfhnpbbhaa.Ix Go.Proofs.Ytlkhdbfhnpbbhaa.Tx Go.Proofs.Ytlkhdbfhnpbbhaa.Pure
set_option maxRecDepth 100000 in
set_option maxHeartbeats 8000000 in
theorem iid_bad {f : Nat → Prop} {w : World} {base kb mb : Nat} {S : List (List LB)} (h : IX f w base kb mb S) {A : Option Addr} {c : Nat} {l : List LB} (hC : Kd.C k41 w A l.length l) (hc : l.length ≤ c) (hk : chk l = false) :
  Calls Try.prog 22 #[.pointer (some ⟨kb, 0, none⟩), .slice A l.length c] w fun e w' => e = .returned (.tuple #[.int .i64 (-1), .int .i64 5]) ∧ Below w.heap.size w w' := by
 have HC := Lib.hid hC; have HCL := Lib.hid hc; have HCK := Lib.hid (check_eq l 60 (Nat.le_refl _)); rw [hk] at HCK; clear h hC hc hk; go_enter Try.func22, Try.ntmps22; (go_wp2_with (go_at_call 35; go_must (refine (label_Check.calls 60 _ _ l false _ HC.out HCL.out HCK.out).mono ?_; rintro e w1 ⟨rfl, hb1⟩))); go_ret2
 exact ⟨rfl, hb1⟩
set_option maxRecDepth 100000 in
set_option maxHeartbeats 8000000 in
theorem iid_found {f : Nat → Prop} {w : World} {base kb mb : Nat} {S : List (List LB)} (h : IX f w base kb mb S) {A : Option Addr} {c : Nat} {l : List LB} (hC : Kd.C k41 w A l.length l) (hc : l.length ≤ c) (hk : chk l = true) (hn : numOf S (textB l) ≠ 0) :
  Calls Try.prog 22 #[.pointer (some ⟨kb, 0, none⟩), .slice A l.length c] w fun e w' => e = .returned (.tuple #[.int .i64 ((numOf S (textB l) : Nat) - 1), .int .i64 0]) ∧ Below w.heap.size w w' := by
 have HC := Lib.hid hC; have HCL := Lib.hid hc; have HX := Lib.hid h; have HCK := Lib.hid (check_eq l 60 (Nat.le_refl _)); have hp : posOf S l = numOf S (textB l) := by unfold posOf; rw [if_pos hk]
 have HFD := fun (W : World) (hx : IX f W base kb mb S) (hcw : Kd.C k41 W A l.length l) => ifind_u hx hcw hc; rw [hp, decide_eq_true hn] at HFD; have HF := Lib.hid HFD; rw [hk] at HCK; clear h hC hc hk hn hp HFD; go_enter Try.func22, Try.ntmps22
 go_wp2_with (first
  | (go_at_call 35; go_must (refine (label_Check.calls 60 _ _ l true _ HC.out HCL.out HCK.out).mono ?_; rintro e w1 ⟨rfl, hb1⟩; have HB1 := Lib.hid hb1; clear hb1))
  | (go_at_call 11; go_must (refine (HF.out _ (HX.out.below HB1.out) (Kd.C_below HC.out HB1.out)).mono ?_; rintro e w2 ⟨rfl, hb2⟩; have HB2 := Lib.hid (HB1.out.trans (hb2.mono HB1.out.size)); clear hb2)))
 go_ret2
 exact ⟨rfl, HB2.out⟩
end Go.Proofs.Ytlkhdbfhnpbbhaa
namespace Go.Proofs.Ytlkhdbfhnpbbhaa
open Go.RowKit Go.Maps Go.Proofs.YtlkhdbfhnpbbhaaW.PrintWords Go.Proofs.YtlkhdbfhnpbbhaaW.PrintLast Go.Proofs.YtlkhdbfhnpbbhaaW.PrintMore Go.Proofs.Ytlkhdbfhnpbbhaa.Ix Go.Proofs.Ytlkhdbfhnpbbhaa.Tx Go.Proofs.Ytlkhdbfhnpbbhaa.Pure
structure XR (f : Nat → Prop) (w : World) (base gb : Nat) (S : List (List LB)) : Prop where
 cells : ∃ v, w.heap[gb]? = some (.cells #[v] 33 (0, 0)) ∧ Kd.R (Kd.slice 41 k41) 23 w base (fun k => f k ∧ k ≠ gb) v S
 good : ∀ s ∈ S, chk s = true
 len : S.length ≤ 4096
 gge : base ≤ gb
 fg : f gb
theorem XR.lt {f : Nat → Prop} {w : World} {base gb : Nat} {S : List (List LB)} (h : XR f w base gb S) : gb < w.heap.size := by
 obtain ⟨v, hv, _⟩ := h.cells; exact (Array.getElem?_eq_some_iff.1 hv).1
theorem XR.below {f : Nat → Prop} {w w' : World} {base gb : Nat} {S : List (List LB)} (h : XR f w base gb S) (hb : Below w.heap.size w w') : XR f w' base gb S := by
 refine ⟨?_, h.good, h.len, h.gge, h.fg⟩; obtain ⟨v, hv, hR⟩ := h.cells; exact ⟨v, (hb.block gb h.lt).trans hv, Kd.R_below hR hb⟩
theorem XR.far {f g : Nat → Prop} {w w' : World} {base gb : Nat} {S : List (List LB)} (h : XR f w base gb S) (hg : Far g w w') (hfg : ∀ k, f k → ¬ g k) : XR f w' base gb S := by
 refine ⟨?_, h.good, h.len, h.gge, h.fg⟩; obtain ⟨v, hv, hR⟩ := h.cells; exact ⟨v, (hg.block gb h.lt (hfg gb h.fg)).trans hv, R_other hR hg (fun k hk => hfg k hk.1)⟩
theorem XR.bound {f : Nat → Prop} {w : World} {base gb : Nat} {S : List (List LB)} (h : XR f w base gb S) : XR (fun k => f k ∧ base ≤ k ∧ k < w.heap.size) w base gb S := by
 refine ⟨?_, h.good, h.len, h.gge, ⟨h.fg, h.gge, h.lt⟩⟩; obtain ⟨v, hv, hR⟩ := h.cells; exact ⟨v, hv, Kd.R_mono (Kd.R_bound hR) (fun k hk => ⟨⟨hk.1.1, hk.2.1, hk.2.2.1⟩, hk.1.2⟩)⟩
theorem XR.mono {f g : Nat → Prop} {w : World} {base gb : Nat} {S : List (List LB)} (h : XR f w base gb S) (hfg : ∀ k, f k → g k) : XR g w base gb S := by
 refine ⟨?_, h.good, h.len, h.gge, hfg _ h.fg⟩; obtain ⟨v, hv, hR⟩ := h.cells; exact ⟨v, hv, Kd.R_mono hR (fun k hk => ⟨hfg k hk.1, hk.2⟩)⟩
noncomputable def rat (S : List (List LB)) (l : List LB) : Option Nat := S.findIdx? (fun s => decide (s = l))
noncomputable def rpos (S : List (List LB)) (l : List LB) : Int := match rat S l with
 | some i => ((i : Nat) : Int)
 | none => -1
noncomputable def rhas (S : List (List LB)) (l : List LB) : Bool := (rat S l).isSome
theorem numOf_rat {S : List (List LB)} {l : List LB} (hS : ∀ s ∈ S, chk s = true) (hl : chk l = true) : numOf S (textB l) = match rat S l with | some i => i + 1 | none => 0 := by
 unfold numOf rat
 have : S.findIdx? (fun s => decide (textB s = textB l)) = S.findIdx? (fun s => decide (s = l)) := by
  induction S with
  | nil => rfl
  | cons s t ih =>
   rw [List.findIdx?_cons, List.findIdx?_cons, ih (fun x hx => hS x (List.mem_cons_of_mem _ hx))]
   have : decide (textB s = textB l) = decide (s = l) := by
    rw [Bool.eq_iff_iff, decide_eq_true_eq, decide_eq_true_eq]; exact ⟨fun c => textB_inj (hS s List.mem_cons_self) hl c, fun c => by rw [c]⟩
   rw [this]
 (rw [this] <;> first | done | rfl)
set_option maxRecDepth 100000 in
set_option maxHeartbeats 8000000 in
theorem rfind_u {f : Nat → Prop} {w : World} {base gb : Nat} {S : List (List LB)} (h : XR f w base gb S) {A : Option Addr} {c : Nat} {l : List LB} (hC : Kd.C k41 w A l.length l) (hc : l.length ≤ c) (hl : l.length ≤ 140737488351232) :
  Calls Try.prog 13 #[.pointer (some ⟨gb, 0, none⟩), .slice A l.length c] w fun e w' => e = .returned (.tuple #[.int .i64 (rpos S l), .bool (rhas S l)]) ∧ Below w.heap.size w w' := by
 have HC := Lib.hid hC; have HCL := Lib.hid hc; have HX := Lib.hid h; have hlen := h.len; obtain ⟨v0, hv0, hr0⟩ := h.cells; obtain ⟨A0, c0, rfl, hcc, hCS⟩ := Kd.R_reads hr0; have HV0 := Lib.hid hv0; have HCS := Lib.hid hCS; clear h hC hc hr0 hCS hv0; go_enter Try.func13, Try.ntmps13; go_wp2; go_loopw [6] (fun v6 wr => ∃ i : Nat, i ≤ S.length ∧ v6 = .int .i64 (i : Int) ∧ (∀ j, j < i → S.getD j [] ≠ l) ∧ Below w.heap.size w wr) (fun v6 _ => S.length - (intOf v6).toNat)
 case atStart => exact ⟨0, Nat.zero_le _, rfl, fun _ h => absurd h (Nat.not_lt_zero _), Below.refl _ _⟩
 case round =>
  obtain ⟨i, hi, rfl, hno, hb⟩ := hrel; have HNO := Lib.hid hno; have HB := Lib.hid hb; have cc0 := (hb.cell (p := ⟨gb, 0, none⟩) HX.out.lt).trans (blk_cell HV0.out 0); by_cases hlt : i < S.length
  ·obtain ⟨ad, A', c', rfl, hcell, hle, hC'⟩ := set_at HCS.out i hlt
   have hc2 := (hb.cell (World.block_lt_of_cell? w _ hcell)).trans hcell
   have hs8 : (S.getD i []).length ≤ 8 := by
    have : S.getD i [] ∈ S := zk47
    exact zk130
   have hC2 := Kd.C_below hC' hb; obtain ⟨x, hx⟩ : ∃ x, S.getD i [] = x := ⟨_, rfl⟩
   have HXX := Lib.hid hx; rw [hx] at hc2 hle hC2 hs8; obtain ⟨r, hr, hr0⟩ := cmp_eq x l zk12 hl 40 zk12; have HR := Lib.hid hr; have HC2 := Lib.hid hC2; have HLE := Lib.hid hle; have HR0 := Lib.hid hr0; clear hcell hC' hC2 hle hb hx hr hno hr0; by_cases h0 : r = 0
   ·have HXL := Lib.hid (HR0.out.1 h0)
    clear HR0; subst h0; (go_wp2_with (go_at_call 37; go_must (refine (varveref11_Cmp.calls 40 A' c' x A c l 0 _ HC2.out HLE.out (Kd.C_below HC.out HB.out) HCL.out HR.out).mono ?_; rintro e w1 ⟨rfl, ⟨nd, rfl⟩⟩))); go_ret2
    have hxl := HXL.out
    have hrat : rat S l = some i := by
     unfold rat; rw [List.findIdx?_eq_some_iff_getElem]; have e := HXX.out; refine ⟨hlt, by rw [List.getD_eq_getElem?_getD, List.getElem?_eq_getElem hlt] at e; simp at e; simp [e, hxl], fun j hj => ?_⟩; have := HNO.out j hj; rw [List.getD_eq_getElem?_getD, List.getElem?_eq_getElem zk12] at this; simpa using this
    have e1 : rpos S l = (i : Int) := by unfold rpos; rw [hrat]
    have e2 : rhas S l = true := by unfold rhas; rw [hrat]; rfl
    rw [e1, e2]; exact ⟨rfl, pw_below_drewN HB.out _⟩
   ·have h0' : (r == 0) = false := beq_false_of_ne h0
    go_wp2_with (go_at_call 37; go_must (refine (varveref11_Cmp.calls 40 A' c' x A c l r _ HC2.out HLE.out (Kd.C_below HC.out HB.out) HCL.out HR.out).mono ?_; rintro e w1 ⟨rfl, ⟨nd, rfl⟩⟩))
    go_roundw
    case rel =>
     refine ⟨i + 1, hlt, zk30, fun j hj => ?_, pw_below_drewN HB.out _⟩; by_cases hji : j = i
     ·rw [hji, HXX.out]; exact fun c => h0 (HR0.out.2 c)
     ·exact HNO.out j zk12
    case measure => simp [intOf]; omega
  ·obtain rfl : i = S.length := by omega
   clear hb hno; go_wp2; go_ret2
   have hrat : rat S l = none := by
    unfold rat; rw [List.findIdx?_eq_none_iff]; intro s hs; obtain ⟨j, hj, e⟩ := List.getElem_of_mem hs; have := HNO.out j hj; rw [List.getD_eq_getElem?_getD, List.getElem?_eq_getElem hj] at this; simp only [Option.getD_some] at this; rw [e] at this; simpa using this
   have e1 : rpos S l = -1 := by unfold rpos; rw [hrat]
   have e2 : rhas S l = false := by unfold rhas; rw [hrat]; rfl
   rw [e1, e2]; exact ⟨rfl, HB.out⟩
end Go.Proofs.Ytlkhdbfhnpbbhaa
namespace Go.Proofs.Ytlkhdbfhnpbbhaa
open Go.RowKit Go.Proofs.YtlkhdbfhnpbbhaaW.PrintWords Go.Proofs.YtlkhdbfhnpbbhaaW.PrintLast Go.Proofs.YtlkhdbfhnpbbhaaW.PrintMore Go.Proofs.Ytlkhdbfhnpbbhaa.Ix Go.Proofs.Ytlkhdbfhnpbbhaa.Tx Go.Proofs.Ytlkhdbfhnpbbhaa.Pure
theorem rises_l0 (l : List Int) (hl : l.length ≤ 140737488351232) (h : ∀ i, i + 1 < l.length → rd l (i : Int) < rd l ((i + 1 : Nat) : Int)) : ∀ (d i k : Nat), 1 ≤ i → i + d = max l.length 1 → d < k → post_Rises.l0 k l (i : Int) = some true
 | 0, i, k, h1, hd, hk => by
  obtain ⟨k, rfl⟩ : ∃ m, k = m + 1 := ⟨k - 1, zk12⟩
  rw [post_Rises.l0, if_neg zk12]
 | d + 1, i, k, h1, hd, hk => by
  obtain ⟨k, rfl⟩ : ∃ m, k = m + 1 := ⟨k - 1, zk12⟩
  have ih := rises_l0 l hl h d (i + 1) k zk12 zk12 zk12; rw [Int.natCast_add, Int.natCast_one] at ih; have hr := h (i - 1) zk12; rw [show i - 1 + 1 = i by omega, show ((i - 1 : Nat) : Int) = (i : Int) - 1 by omega] at hr; rw [post_Rises.l0, if_pos zk12, if_pos zk12, w64 zk12 zk12, if_pos zk12, if_pos zk12, if_neg zk12, w64 zk12 zk12]; exact ih
theorem rises_eq (l : List Int) (hl : l.length ≤ 140737488351232) (h : ∀ i, i + 1 < l.length → rd l (i : Int) < rd l ((i + 1 : Nat) : Int)) (k : Nat) (hk : l.length < k) : post_Rises.f k l = some true := by
 unfold post_Rises.f; exact rises_l0 l hl h (max l.length 1 - 1) 1 k (Nat.le_refl _) zk12 zk12
theorem sel_rises (q : List LB → Bool) (S : List (List LB)) (n : Nat) : ∀ i, i + 1 < (sel q S n).length → rd (sel q S n) (i : Int) < rd (sel q S n) ((i + 1 : Nat) : Int) := by
 intro i hi
 have hp : List.Pairwise (· < ·) (sel q S n) := by
  unfold sel; rw [List.pairwise_map]; exact (List.pairwise_lt_range.filter _).imp (fun h => by omega)
 have := List.pairwise_iff_getElem.1 hp i (i + 1) zk12 hi zk12; simpa [rd, hi, show i < (sel q S n).length by omega] using this
theorem sel_rises_eq (q : List LB → Bool) (S : List (List LB)) (n k : Nat) (hn : n ≤ 5000) (hk : n < k) : post_Rises.f k (sel q S n) = some true :=
 rises_eq _ (by have := sel_len q S n; omega) (sel_rises q S n) k (by have := sel_len q S n; omega)
theorem drop_rdI (l : List Int) (i : Nat) (hi : i < l.length) : l.drop i = rd l (i : Int) :: l.drop (i + 1) := by
 rw [List.drop_eq_getElem_cons hi]; congr 1; simp [rd, hi]
theorem sameI_l0 (l m : List Int) (hl : l.length ≤ 140737488351232) (he : l.length = m.length) : ∀ (d i k : Nat), i + d = l.length → d < k → varvelaw00_SameInts.l0 k l m (i : Int) = some (decide (l.drop i = m.drop i))
 | 0, i, k, h, hk => by
  obtain ⟨k, rfl⟩ : ∃ n, k = n + 1 := ⟨k - 1, zk12⟩
  rw [varvelaw00_SameInts.l0, if_neg zk12, List.drop_eq_nil_of_le zk12, List.drop_eq_nil_of_le zk12]; rfl
 | d + 1, i, k, h, hk => by
  obtain ⟨k, rfl⟩ : ∃ n, k = n + 1 := ⟨k - 1, zk12⟩
  have ih := sameI_l0 l m hl he d (i + 1) k zk12 zk12; rw [Int.natCast_add, Int.natCast_one] at ih; rw [varvelaw00_SameInts.l0, if_pos zk12, if_pos zk12, if_pos zk12, w64 zk12 zk12, ih, drop_rdI l i zk12, drop_rdI m i zk12]; by_cases h1 : rd l (i : Int) = rd m (i : Int)
  ·rw [if_pos h1, h1]; simp
  ·rw [if_neg h1]; simp [h1]
theorem sameI_eq (l m : List Int) (hl : l.length ≤ 140737488351232) (k : Nat) (hk : l.length < k) : varvelaw00_SameInts.f k l m = some (decide (l = m)) := by
 unfold varvelaw00_SameInts.f; by_cases h : l.length = m.length
 ·rw [if_pos zk12]; exact sameI_l0 l m hl h l.length 0 k zk12 hk
 ·rw [if_neg zk12]; simp [show ¬ l = m from fun c => h (by rw [c])]
end Go.Proofs.Ytlkhdbfhnpbbhaa
namespace Go.Proofs.Ytlkhdbfhnpbbhaa
open Go.RowKit Go.Maps Go.Proofs.YtlkhdbfhnpbbhaaW.PrintWords Go.Proofs.YtlkhdbfhnpbbhaaW.PrintLast Go.Proofs.YtlkhdbfhnpbbhaaW.PrintMore Go.Proofs.Ytlkhdbfhnpbbhaa.Ix Go.Proofs.Ytlkhdbfhnpbbhaa.Tx Go.Proofs.Ytlkhdbfhnpbbhaa.Pure
set_option maxRecDepth 100000 in
set_option maxHeartbeats 8000000 in
theorem rid_new {f : Nat → Prop} {w : World} {base gb : Nat} {S : List (List LB)} (h : XR f w base gb S) (hbs : base ≤ w.heap.size) (hff : ∀ k, w.heap.size ≤ k → f k) {A : Option Addr} {c : Nat} {l : List LB} (hC : Kd.C k41 w A l.length l) (hc : l.length ≤ c)
  (hk : chk l = true) (hnew : rat S l = none) (hlt : S.length < 4096) :
  Calls Try.prog 34 #[.pointer (some ⟨gb, 0, none⟩), .slice A l.length c] w fun e w' => e = .returned (.tuple #[.int .i64 (S.length : Nat), .int .i64 0]) ∧ XR f w' base gb (S ++ [l]) ∧ Below base w w' ∧ Far f w w' := by
 have hs8 := (chk_fine hk).2.1; have HX := Lib.hid h; have HBS := Lib.hid hbs; have HFF := Lib.hid hff; have HC := Lib.hid hC; have HCL := Lib.hid hc; have HK := Lib.hid hk; have HCK := Lib.hid (rcheck_eq l zk12 (fun x hx => by have := fine_nsize ((chk_fine hk).1 x hx); omega) 60 zk12 (fun x hx => by have := fine_nsize ((chk_fine hk).1 x hx); omega)); rw [hk] at HCK; have hp : rhas S l = false := by unfold rhas; rw [hnew]; rfl
 have hp1 : rpos S l = -1 := by unfold rpos; rw [hnew]
 have HFD := fun (W : World) (hx : XR f W base gb S) (hcw : Kd.C k41 W A l.length l) => rfind_u hx hcw hc zk12; rw [hp, hp1] at HFD; have HF := Lib.hid HFD; have d1 : decide ((4096 : Int) ≤ (S.length : Int)) = false := zk51
 clear h hC hc hk hnew hp hp1 HFD hbs hff; go_enter Try.func34, Try.ntmps34
 go_wp2_with (first
  | (go_at_call 14; go_must (refine (varveref11_Check.calls 60 _ _ l true _ HC.out HCL.out HCK.out).mono ?_; rintro e w1 ⟨rfl, hb1⟩; have HB1 := Lib.hid (show Below w.heap.size w w1 by first | exact hb1 | (obtain ⟨n1, rfl⟩ := hb1.out; exact pw_below_drewN (Below.refl _ _) _)); clear hb1))
  | (go_at_call 13; go_must (refine (HF.out _ (HX.out.below HB1.out) (Kd.C_below HC.out HB1.out)).mono ?_; rintro e w2 ⟨rfl, hb2⟩; have HB2 := Lib.hid (HB1.out.trans (hb2.mono HB1.out.size)); have hx2 := HX.out.below HB2.out; obtain ⟨v0, hv0, hr0⟩ := hx2.cells; obtain ⟨A0, c0_, rfl, hcc0, -⟩ := Kd.R_reads hr0; have cc0 := blk_cell hv0 0; have HV0 := Lib.hid hv0; have HR0 := Lib.hid hr0; have HX2 := Lib.hid hx2; clear hb2 hv0 hr0 hx2)))
 have hc8 : w2.drew.cell? ⟨gb, 0, none⟩ = some (.slice A0 S.length c0_) := cc0; clear cc0; refine wp_region_noPanic ?_; refine start_ (n := 12) (S := fun w' => w'.cell? ⟨gb, 0, none⟩ = some (.slice A0 S.length c0_)) (ds := [11]) #[false, false, false, false, false, false, false, false, false, false, false, false] zk3 rfl rfl hc8 (fun hHeld => ?_); clear hc8; refine pure_ (i := 0) (N := some 25) (v := ?_) (a' := ?_) #[true, false, false, false, false, false, false, false, false, false, false, false] rfl rfl zk3 (fun _ _ _ h => h) (Or.inl ⟨zk16, ?_⟩) ?_ ?_; rotate_left
 ·exact zk95
 rotate_left
 ·exact zk94
 refine pure_ (i := 1) (N := some 26) (v := ?_) (a' := ?_) #[true, true, false, false, false, false, false, false, false, false, false, false] rfl rfl zk3 (fun _ _ _ h => h) (Or.inl ⟨zk16, ?_⟩) ?_ ?_; rotate_left
 ·exact zk95
 rotate_left
 ·exact zk94
 refine pure_ (i := 2) (N := some 27) (v := ?_) (a' := ?_) #[true, true, true, false, false, false, false, false, false, false, false, false] rfl rfl zk3 (fun _ _ _ h => h) (Or.inl ⟨zk16, ?_⟩) ?_ ?_; rotate_left
 ·exact zk95
 rotate_left
 ·exact zk94
 refine pure_ (i := 3) (N := some 28) (v := ?_) (a' := ?_) #[true, true, true, true, false, false, false, false, false, false, false, false] rfl rfl zk3 (fun _ _ _ h => h) (Or.inl ⟨zk16, ?_⟩) ?_ ?_; rotate_left
 ·exact zk95
 rotate_left
 ·exact zk94
 refine take_ (i := 4) (N := some 29) (v := ?_) (a' := ?_) #[true, true, true, true, true, false, false, false, false, false, false, false] rfl rfl zk3 (fun _ _ _ h => h) (Or.inl ⟨zk16, ?_⟩) hHeld ?_ ?_; rotate_left
 ·exact zk121
 rotate_left
 ·exact zk94
 refine pure_ (i := 5) (N := some 30) (v := ?_) (a' := ?_) #[true, true, true, true, true, true, false, false, false, false, false, false] rfl rfl zk3 (fun _ _ _ h => h) (Or.inl ⟨zk16, ?_⟩) ?_ ?_; rotate_left
 ·exact zk95
 rotate_left
 ·exact zk94
 refine one_ (i := 6) (N := some 31) #[true, true, true, true, true, true, true, false, false, false, false, false] rfl rfl zk3 zk30 (fun K hK => ?_); refine Kd.R_append_rows_step k41 (w0 := w2.drew) w2.drew.heap.size zk16 (.const (.slice none 0 0)) (.tmp 30) 23 41 (.agg #[(.string ⟨#[]⟩), (.string ⟨#[]⟩)]) 32 rfl Try.underlying23 info41 rfl zk40 zk12 (.slice none 0 0) ([] : List LB) l _ _ _ (fun _ => True) (fun _ => False) rfl rfl (Kd.R_nil _ _ _ _ _) (Kd.C_drew (Kd.C_below HC.out HB2.out)) (fun _ _ h => h) (fun _ h => h.elim) (fun _ _ => trivial) (Below.refl _ _) (Nat.le_refl _) zk51 ?_; intro v1 w3 hr1 hb _ _; rw [List.nil_append] at hr1; obtain ⟨A1, c1, rfl⟩ := Kd.R_slice hr1; have hbb : Below w2.heap.size w2 w3 := (below_drew (Below.refl _ _)).trans hb; have hv3 : w3.heap[gb]? = some (.cells #[.slice A0 S.length c0_] 33 (0, 0)) := (hbb.block gb HX2.out.lt).trans HV0.out; have hc3 := blk_cell hv3 0; have HX3 := Lib.hid (HX2.out.below hbb); have HV3 := Lib.hid hv3; have HR3 := Lib.hid (Kd.R_below HR0.out hbb); have HR1 := Lib.hid (Kd.R_bound hr1); have HB3 := Lib.hid (HB2.out.trans (hbb.mono HB2.out.size)); clear hr1 hb hbb hv3 hHeld; refine hK.out _ _ hc3 (fun hHeld => ?_); clear hK K; refine norm_ (a' := ?_) ?_ ?_; rotate_left
 ·show Act.put _ (some 31) _ = _; simp only [Act.put, List.setIfInBounds_toArray, List.set_cons_zero, List.set_cons_succ, i64_w, i32_w]; rfl
 refine one_ (i := 7) (N := some 32) #[true, true, true, true, true, true, true, true, false, false, false, false] rfl rfl zk3 zk30 (fun K hK => ?_); refine value_ (v := .slice (some ⟨w3.heap.size, 0, none⟩) 1 1) (w1 := w3.alloc (.cells #[.slice A1 l.length c1] 23)) zk16 rfl ?_ ?_
 ·go_simp
 clear hHeld; refine hK.out _ _ (blk_cell (blk_alloc HV3.out _) 0) (fun hHeld => ?_); clear hK K; refine norm_ (a' := ?_) ?_ ?_; rotate_left
 ·show Act.put _ (some 32) _ = _; simp only [Act.put, List.setIfInBounds_toArray, List.set_cons_zero, List.set_cons_succ, i64_w, i32_w]; rfl
 refine one_ (i := 8) (N := some 33) #[true, true, true, true, true, true, true, true, true, false, false, false] rfl rfl zk3 zk30 (fun K hK => ?_); refine Kd.R_append_step (Kd.slice 41 k41) (w0 := w) base zk16 (.tmp 29) (.tmp 32) 22 23 (.slice none 0 0) 24 rfl Try.underlying22 infoL rfl zk40 zk40 (.slice A0 S.length c0_) S l [.slice A1 l.length c1] (fun k => f k ∧ k ≠ gb) (fun k => w2.heap.size ≤ k) rfl rfl ?hp ?hok ?hfr HR3.out ?hbw ?hbz ?hln ?_
 case hp => exact Kd.M_row (Kd.R_lower (Kd.R_mono HR1.out (fun k hk => hk.2.1)) (Nat.le_trans HBS.out HB2.out.size))
 case hok => exact fun k hk => ⟨⟨HFF.out k (Nat.le_trans HB2.out.size hk), by have := HX2.out.lt; omega⟩, fun e => by obtain ⟨inner, ho⟩ := Kd.R_own HR0.out; have := own_lt ho k e.symm; omega⟩
 case hfr => exact fun k hk => ⟨HFF.out k (Nat.le_trans HB3.out.size hk), by have := HX3.out.lt; omega⟩
 case hbw => exact HB3.out.mono HBS.out
 case hbz => exact Nat.le_trans HBS.out HB3.out.size
 case hln => omega
 intro v' w4 hr4 hb4 hg4 hat4; have hv4 : w4.heap[gb]? = some (.cells #[.slice A0 S.length c0_] 33 (0, 0)) := (hg4.block gb HX3.out.lt (fun e => (HR0.out.1 gb e.symm).2 rfl)).trans HV3.out; have HV4 := Lib.hid hv4; have HR4 := Lib.hid hr4; have HB4 := Lib.hid hb4; have HZ4 := Lib.hid ((Far.of_below (f := f) HB3.out).grown hg4 (fun k e => (HR3.out.1 k e).1)); have hc4 := blk_cell hv4 0; obtain ⟨A4, c4, rfl⟩ := Kd.R_slice hr4; clear hr4 hb4 hg4 hat4 hHeld hv4; refine hK.out _ _ hc4 (fun hHeld => ?_); clear hK K; refine norm_ (a' := ?_) ?_ ?_; rotate_left
 ·show Act.put _ (some 33) _ = _; simp only [Act.put, List.setIfInBounds_toArray, List.set_cons_zero, List.set_cons_succ, i64_w, i32_w]; rfl
 refine pure_ (i := 9) (N := some 34) (v := ?_) (a' := ?_) #[true, true, true, true, true, true, true, true, true, true, false, false] rfl rfl zk3 (fun _ _ _ h => h) (Or.inl ⟨zk16, ?_⟩) ?_ ?_; rotate_left
 ·exact zk95
 rotate_left
 ·exact zk94
 refine pure_ (i := 10) (N := some 35) (v := ?_) (a' := ?_) #[true, true, true, true, true, true, true, true, true, true, true, false] rfl rfl zk3 (fun _ _ _ h => h) (Or.inl ⟨zk16, ?_⟩) ?_ ?_; rotate_left
 ·exact zk95
 rotate_left
 ·exact zk94
 refine last_ (i := 11) (N := none) #[true, true, true, true, true, true, true, true, true, true, true, true] rfl rfl zk3 zk40 (fun K hK => ?_); have s0 := blk_cell HV4.out 0; have s1 := blk_frozen HV4.out 0; refine skip_ (w1 := ?_) zk16 rfl ?_ ?_; rotate_left
 ·go_simp; rfl
 refine hK.out _ _ ?_; clear hK K s0 s1 hc4; refine done_ zk3 ?_; refine NoPanic.normal ?_; have hsl : (S ++ [l]).length = S.length + 1 := zk30
 have hv5 := blk_put HV4.out 0 (.slice A4 (S.length + 1) c4) rfl; have hr5 := Kd.R_far (p := ⟨gb, 0, none⟩) (hsl ▸ HR4.out) (fun k hk => hk.2) (.slice A4 (S.length + 1) c4); have hb5 := HB4.out.setCell (p := ⟨gb, 0, none⟩) HX.out.gge (.slice A4 (S.length + 1) c4); have HZ5 := Lib.hid (HZ4.out.setCell (p := ⟨gb, 0, none⟩) HX.out.fg (.slice A4 (S.length + 1) c4))
 have hx5 : XR f (w4.setCell ⟨gb, 0, none⟩ (.slice A4 (S.length + 1) c4)) base gb (S ++ [l]) := by
  refine ⟨⟨_, hv5, ?_⟩, ?_, zk51, HX.out.gge, HX.out.fg⟩
  ·rw [show Value.slice A4 (S.length + 1) c4 = .slice A4 (S ++ [l]).length c4 by simp]; rw [← hsl] at hr5; exact hr5
  ·intro s hs
   rcases List.mem_append.1 hs with hs | hs
   ·exact HX.out.good s hs
   ·rw [List.mem_singleton.1 hs]; exact HK.out
 have cc5 := blk_cell hv5 0; have HX5 := Lib.hid hx5; have HB5 := Lib.hid hb5; clear hv5 hr5 hb5 hx5; go_wp2; go_ret2
 exact ⟨zk30, HX5.out, HB5.out, HZ5.out⟩
end Go.Proofs.Ytlkhdbfhnpbbhaa
namespace Go.Proofs.Ytlkhdbfhnpbbhaa
open Go.RowKit Go.Maps Go.Proofs.YtlkhdbfhnpbbhaaW.PrintWords Go.Proofs.YtlkhdbfhnpbbhaaW.PrintLast Go.Proofs.YtlkhdbfhnpbbhaaW.PrintMore Go.Proofs.Ytlkhdbfhnpbbhaa.Ix Go.Proofs.Ytlkhdbfhnpbbhaa.Tx Go.Proofs.Ytlkhdbfhnpbbhaa.Pure
set_option maxRecDepth 100000 in
set_option maxHeartbeats 8000000 in
theorem rid_bad {f : Nat → Prop} {w : World} {base gb : Nat} {S : List (List LB)} (h : XR f w base gb S) {A : Option Addr} {c : Nat} {l : List LB} (hC : Kd.C k41 w A l.length l) (hc : l.length ≤ c) {k : Nat} (hk : varveref11_Check.f k l = some false) :
  Calls Try.prog 34 #[.pointer (some ⟨gb, 0, none⟩), .slice A l.length c] w fun e w' => e = .returned (.tuple #[.int .i64 (-1), .int .i64 5]) ∧ Below w.heap.size w w' := by
 have HC := Lib.hid hC; have HCL := Lib.hid hc; have HCK := Lib.hid hk; clear h hC hc hk; go_enter Try.func34, Try.ntmps34; (go_wp2_with (go_at_call 14; go_must (refine (varveref11_Check.calls k _ _ l false _ HC.out HCL.out HCK.out).mono ?_; rintro e w1 ⟨rfl, hb1⟩; have HB1 := Lib.hid (show Below w.heap.size w w1 by first | exact hb1 | (obtain ⟨n1, rfl⟩ := hb1.out; exact pw_below_drewN (Below.refl _ _) _)); clear hb1))); go_ret2
 exact ⟨rfl, HB1.out⟩
set_option maxRecDepth 100000 in
set_option maxHeartbeats 8000000 in
theorem rid_found {f : Nat → Prop} {w : World} {base gb : Nat} {S : List (List LB)} (h : XR f w base gb S) {A : Option Addr} {c : Nat} {l : List LB} (hC : Kd.C k41 w A l.length l) (hc : l.length ≤ c) (hk : chk l = true) {i : Nat} (hn : rat S l = some i) :
  Calls Try.prog 34 #[.pointer (some ⟨gb, 0, none⟩), .slice A l.length c] w fun e w' => e = .returned (.tuple #[.int .i64 (i : Nat), .int .i64 0]) ∧ Below w.heap.size w w' := by
 have hs8 := (chk_fine hk).2.1; have HX := Lib.hid h; have HC := Lib.hid hC; have HCL := Lib.hid hc; have HCK := Lib.hid (rcheck_eq l zk12 (fun x hx => by have := fine_nsize ((chk_fine hk).1 x hx); omega) 60 zk12 (fun x hx => by have := fine_nsize ((chk_fine hk).1 x hx); omega)); rw [hk] at HCK; have hp : rhas S l = true := by unfold rhas; rw [hn]; rfl
 have hp1 : rpos S l = (i : Int) := by unfold rpos; rw [hn]
 have HFD := fun (W : World) (hx : XR f W base gb S) (hcw : Kd.C k41 W A l.length l) => rfind_u hx hcw hc zk12; rw [hp, hp1] at HFD; have HF := Lib.hid HFD; clear h hC hc hk hn hp hp1 HFD; go_enter Try.func34, Try.ntmps34
 go_wp2_with (first
  | (go_at_call 14; go_must (refine (varveref11_Check.calls 60 _ _ l true _ HC.out HCL.out HCK.out).mono ?_; rintro e w1 ⟨rfl, hb1⟩; have HB1 := Lib.hid (show Below w.heap.size w w1 by first | exact hb1 | (obtain ⟨n1, rfl⟩ := hb1.out; exact pw_below_drewN (Below.refl _ _) _)); clear hb1))
  | (go_at_call 13; go_must (refine (HF.out _ (HX.out.below HB1.out) (Kd.C_below HC.out HB1.out)).mono ?_; rintro e w2 ⟨rfl, hb2⟩; have HB2 := Lib.hid (HB1.out.trans (hb2.mono HB1.out.size)); clear hb2)))
 go_ret2
 exact ⟨rfl, HB2.out⟩
theorem rcheck_any (l : List LB) (hl : l.length ≤ 140737488351232) (hs : ∀ x ∈ l, x.f0.size ≤ 140737488351232) : ∃ k, varveref11_Check.f k l = some (chk l) :=
 ⟨300000000000000, rcheck_eq l hl hs _ zk12 (fun x hx => by have := hs x hx; omega)⟩
end Go.Proofs.Ytlkhdbfhnpbbhaa
namespace Go.Proofs.Ytlkhdbfhnpbbhaa
open Go.RowKit Go.ChangeShapes Go.WideShapes Go.Deep Go.Proofs.YtlkhdbfhnpbbhaaW.PrintWords
def Opens {α : Type} (P : Program) (t : TypeId) (k : Kd α) (wf : α → Prop) : Prop :=
 ∀ {H : Type} {enc : TypeId × Value → H} {w : World} {base : Nat} {spare : Nat → Bool} {held : Bool} {fuel : Nat} {cs : List Value} {x : DataW H × List MemPlace},
  DataW.trod enc P w base spare held fuel t cs = some x → (∀ n ∈ x.1.weights P t, n ≤ reachBytes) → ∃ y, k.K w y cs ∧ wf y
section
variable {P : Program} {t e : TypeId}
theorem opens_int {k : IntKind} (ht : P.underlying t = some (.int k)) : Opens P t (Kd.int k) (fun n => (Lit.int k n).wf = true) := by
 intro H enc w base spare held fuel cs x h _; obtain ⟨n, rfl, _, hw⟩ := DataW.trod_int ht h; exact ⟨n, rfl, hw⟩
theorem opens_string (ht : P.underlying t = some .string) : Opens P t Kd.string (fun s => s.size ≤ 140737488351232) := by
 intro H enc w base spare held fuel cs x h hs; obtain ⟨s, rfl, rfl, _⟩ := DataW.trod_string ht h; refine ⟨s, rfl, ?_⟩; have := hs s.data.toList.length (by simp [DataW.weights]); rw [Array.length_toList] at this; exact this
theorem weightsAll_mem {H : Type} {e : TypeId} {l : List (DataW H)} {d : DataW H} (hd : d ∈ l) : ∀ n ∈ d.weights P e, n ∈ DataW.weightsAll P e l := by
 induction l with
 | nil => cases hd
 | cons a l ih =>
  intro n hn; rw [DataW.weightsAll, List.mem_append]
  rcases List.mem_cons.1 hd with rfl | hd
  ·exact .inl hn
  ·exact .inr (ih hd n hn)
theorem opens_slice {α : Type} {d : Kd α} {wf : α → Prop} {B : Nat} (ht : P.underlying t = some (.slice e)) (hc : P.cellsOf e = d.sz) (hB : P.bytesOf e = B) (he : Opens P e d wf) :
  Opens P t (Kd.slice e d) (fun xs => xs.length * B ≤ 140737488351232 ∧ xs.length ≤ 9223372036854775807 ∧ ∀ x ∈ xs, wf x) := by
 intro H enc w base spare held fuel cs x h hs
 rcases open_slice ht h with ⟨rfl, rfl⟩ | ⟨a, len, cap, m, n, D, Pl, rfl, hb, hl, hm, hmm, rfl, hi⟩
 ·exact ⟨[], ⟨none, 0, rfl, Nat.le_refl _, Kd.C_nil d w⟩, zk30, zk30, zk30⟩
 ·have hlm : len ≤ m := by rw [hmm]; split <;> omega
  have each : ∀ i, i < len → ∃ y cs', w.cells? base (a.add (i * P.cellsOf e)) (P.cellsOf e) = some cs' ∧ d.K w y cs' ∧ wf y := fun i hil => by
   obtain ⟨cs', h1, h2⟩ := hi i zk12
   obtain ⟨y, h3, h4⟩ := he h2 (fun n hn => hs n (by
    rw [DataW.weights, ht]; refine List.mem_cons_of_mem _ (List.mem_append_left _ (weightsAll_mem (d := D i) ?_ n hn))
    exact List.mem_map.2 ⟨i, List.mem_range.2 hil, rfl⟩))
   exact ⟨y, cs', h1, h3, h4⟩
  have mk : ∀ k, k ≤ len → ∃ ys : List α, ys.length = k ∧ ∀ i y, ys[i]? = some y → ∃ cs', w.cells? base (a.add (i * P.cellsOf e)) (P.cellsOf e) = some cs' ∧ d.K w y cs' ∧ wf y := by
   intro k
   induction k with
   | zero => intro _; exact ⟨[], rfl, fun i y hy => by simp at hy⟩
   | succ k ih =>
    intro hk; obtain ⟨ys, h1, h2⟩ := ih zk12; obtain ⟨y, cs', hy⟩ := each k zk12; refine ⟨ys ++ [y], by simp [h1], fun i z hz => ?_⟩; by_cases c : i < k
    ·rw [List.getElem?_append_left zk12] at hz; exact h2 i z hz
    ·have hik : i = k := by
      have := (List.getElem?_eq_some_iff.1 hz).1; rw [List.length_append, List.length_singleton] at this; omega
     subst hik; rw [List.getElem?_append_right zk12, h1, Nat.sub_self, List.getElem?_cons_zero, Option.some.injEq] at hz; subst hz; exact ⟨cs', hy⟩
  obtain ⟨ys, h1, h2⟩ := mk len (Nat.le_refl _); have hmx : maxLen = 9223372036854775807 := rfl; refine ⟨ys, ⟨some a, cap, by rw [h1], zk12, ?_⟩, ?_, zk12, fun y hy => ?_⟩
  ·refine ⟨rfl, zk12, fun _ => ⟨a, rfl, fun j p hp => ?_⟩⟩; obtain ⟨cs', h3, h4, _⟩ := h2 j p hp; obtain ⟨_, hlen, hcell⟩ := World.cells?_some h3; refine ⟨cs', by rw [hlen, hc], h4, fun i u hu => ?_⟩; have hil := (List.getElem?_eq_some_iff.1 hu).1; rw [← hc, ← Go.Deep.add_add, hcell i zk12]; exact hu
  ·exact zk99
  ·exact zk120
def OpensFields {α : Type} (P : Program) : List Field → Nat → Kd α → (α → Prop) → Prop := fun fs off k wf =>
 ∀ {H : Type} {enc : TypeId × Value → H} {w : World} {base : Nat} {spare : Nat → Bool} {held : Bool} {fuel : Nat} {cs : List Value} {xs : List (DataW H × List MemPlace)},
  (∀ (i : Nat) (f : Field), fs[i]? = some f → DataW.trod enc P w base spare held fuel f.type ((cs.drop f.offset).take (P.cellsOf f.type)) = xs[i]?) → xs.length = fs.length → cs.length = off + k.sz →
  (∀ n ∈ DataW.weightsEach P (fs.map (·.type)) (xs.map (·.1)), n ≤ reachBytes) → ∃ y, k.K w y (cs.drop off) ∧ wf y
theorem opensFields_one {α : Type} {f : Field} {off : Nat} {k : Kd α} {wf : α → Prop} (ho : f.offset = off) (hc : P.cellsOf f.type = k.sz) (h : Opens P f.type k wf) : OpensFields P [f] off k wf := by
 intro H enc w base spare held fuel cs xs hx hl hcs hs
 obtain ⟨x, rfl⟩ : ∃ x, xs = [x] := by
  cases xs with
  | nil => simp at hl
  | cons x r => cases r with
   | nil => exact ⟨x, rfl⟩
   | cons _ _ => simp at hl
 have h0 := hx 0 f rfl; rw [ho, hc, List.take_of_length_le zk88] at h0; exact h h0 (fun n hn => hs n (by simpa [DataW.weightsEach] using hn))
theorem opensFields_cons {α β : Type} {f : Field} {fs : List Field} {off : Nat} {a : Kd α} {b : Kd β} {wa : α → Prop} {wb : β → Prop} (ho : f.offset = off) (hc : P.cellsOf f.type = a.sz) (h : Opens P f.type a wa) (hr : OpensFields P fs (off + a.sz) b wb) :
  OpensFields P (f :: fs) off (Kd.pair a b) (fun y => wa y.1 ∧ wb y.2) := by
 intro H enc w base spare held fuel cs xs hx hl hcs hs
 obtain ⟨x, r, rfl⟩ : ∃ x r, xs = x :: r := by
  cases xs with
  | nil => simp at hl
  | cons x r => exact ⟨x, r, rfl⟩
 have h0 := hx 0 f rfl; have hsz : (Kd.pair a b).sz = a.sz + b.sz := rfl; rw [ho, hc] at h0; simp only [List.map_cons, DataW.weightsEach, List.mem_append] at hs; obtain ⟨y, hy, wy⟩ := h h0 (fun n hn => hs n (.inl hn)); obtain ⟨z, hz, wz⟩ := hr (fun i g hg => by have := hx (i + 1) g hg; simpa using this) (by simpa using hl) zk12 (fun n hn => hs n (.inr hn)); refine ⟨(y, z), ⟨(cs.drop off).take a.sz, (cs.drop off).drop a.sz, (List.take_append_drop _ _).symm, hy, ?_⟩, wy, wz⟩; rw [List.drop_drop]; exact hz
theorem opens_struct {α : Type} {fs : Array Field} {k : Kd α} {wf : α → Prop} (ht : P.underlying t = some (.struct fs)) (hc : P.cellsOf t = k.sz) (h : OpensFields P fs.toList 0 k wf) : Opens P t k wf := by
 intro H enc w base spare held fuel cs x hx hs; obtain ⟨xs, n, rfl, rfl, hcl, hxl, hf⟩ := DataW.trod_struct ht hx
 have := h (enc := enc) (w := w) (base := base) (spare := spare) (held := held) (fuel := n) (cs := cs) (xs := xs) (fun i f hfi => hf i f (by simpa using hfi)) (by simpa using hxl) zk12 (fun m hm => hs m (by
  rw [DataW.weights, ht]; exact hm))
 simpa using this
theorem opens_iso {α β : Type} {k : Kd α} {wf : α → Prop} (f : β → α) (g : α → β) (hfg : ∀ x, f (g x) = x) (h : Opens P t k wf) : Opens P t (Kd.iso k f) (fun y => wf (f y)) := by
 intro H enc w base spare held fuel cs x hx hs; obtain ⟨y, h1, h2⟩ := h hx hs; refine ⟨g y, ?_, by show wf (f (g y)); rw [hfg]; exact h2⟩; show k.K w (f (g y)) cs; rw [hfg]; exact h1
theorem Opens.arg {α : Type} {d : Kd α} {e : TypeId} {wf : List α → Prop} {ts : List TypeId} {H : Type} {ds : List (DataW H)} {j : Nat} {enc : TypeId × Value → H} {W : World} {base : Nat} {spare : Nat → Bool} {held : Bool} {v : Value} {x : DataW H} {p : List MemPlace}
  (h : Opens P t (Kd.slice e d) wf) (hsz : (DataW.weightsEach P ts ds).all (· ≤ reachBytes) = true) (ht : ts[j]? = some t) (hd : ds[j]? = some x) (hv : ∃ a len cap, v = .slice a len cap) (hx : DataW.Trod enc P W base spare held t v x p) :
  ∃ A l c, v = .slice A l.length c ∧ l.length ≤ c ∧ Kd.C d W A l.length l ∧ wf l := by
 obtain ⟨fuel, hf⟩ := hx; obtain ⟨a, len, cap, rfl⟩ := hv
 obtain ⟨l, ⟨A, c, hcs, hlc, hC⟩, hw⟩ := h hf (fun n hn => by
  have := List.all_eq_true.1 hsz _ (DataW.weights_mem_each ht hd n hn)
  simpa using this)
 simp [Value.cells] at hcs; obtain ⟨rfl, rfl, rfl⟩ := hcs; exact ⟨_, l, _, rfl, hlc, hC, hw⟩
end
end Go.Proofs.Ytlkhdbfhnpbbhaa
namespace Go.Proofs.Ytlkhdbfhnpbbhaa
open Go.RowKit Go.Maps Go.Proofs.YtlkhdbfhnpbbhaaW.PrintWords Go.Proofs.YtlkhdbfhnpbbhaaW.PrintLast Go.Proofs.YtlkhdbfhnpbbhaaW.PrintMore Go.Proofs.Ytlkhdbfhnpbbhaa.Ix Go.Proofs.Ytlkhdbfhnpbbhaa.Tx Go.Proofs.Ytlkhdbfhnpbbhaa.Pure
def WLs (l : List LB) : Prop := l.length * 32 ≤ 140737488351232 ∧ l.length ≤ 9223372036854775807 ∧ ∀ x ∈ l, x.f0.size ≤ 140737488351232 ∧ x.f1.size ≤ 140737488351232
def WSs (S : List (List LB)) : Prop := S.length * 24 ≤ 140737488351232 ∧ S.length ≤ 9223372036854775807 ∧ ∀ l ∈ S, WLs l
theorem opens41 : Opens Try.prog 41 k41 (fun x => x.f0.size ≤ 140737488351232 ∧ x.f1.size ≤ 140737488351232) :=
 opens_iso (fun x : LB => (x.f0, x.f1)) (fun p => ⟨p.1, p.2⟩) (fun _ => rfl) (opens_struct Try.underlying41 zk3 (opensFields_cons rfl zk3 (opens_string Try.underlying9) (opensFields_one rfl zk3 (opens_string Try.underlying9))))
theorem opens23 : Opens Try.prog 23 (Kd.slice 41 k41) WLs := opens_slice Try.underlying23 (by kernel_rfl) (by kernel_rfl) opens41
theorem opens22 : Opens Try.prog 22 (Kd.slice 23 (Kd.slice 41 k41)) WSs := opens_slice Try.underlying22 (by kernel_rfl) (by kernel_rfl) opens23
theorem wls_check {l : List LB} (h : WLs l) : ∃ k, varveref11_Check.f k l = some (chk l) := rcheck_any l (by have := h.1; omega) (fun x hx => (h.2.2 x hx).1)
noncomputable def stepS (S : List (List LB)) (l : List LB) : List (List LB) := if chk l = true ∧ rat S l = none then S ++ [l] else S
noncomputable def idn (S : List (List LB)) (l : List LB) : Int := if chk l = true then (match rat S l with | some i => ((i : Nat) : Int) | none => ((S.length : Nat) : Int)) else -1
def ide (l : List LB) : Int := if chk l = true then 0 else 5
theorem iid_any {f : Nat → Prop} {w : World} {base kb mb : Nat} {S : List (List LB)} (h : IX f w base kb mb S) (hbs : base ≤ w.heap.size) (hff : ∀ k, w.heap.size ≤ k → f k) {A : Option Addr} {c : Nat} {l : List LB} {bl : Nat} {okl : Nat → Prop} (hl : Kd.R k41 41 w bl okl (.slice A l.length c) l)
  (hlt : S.length < 4096) :
  Calls Try.prog 22 #[.pointer (some ⟨kb, 0, none⟩), .slice A l.length c] w fun e w' => e = .returned (.tuple #[.int .i64 (idn S l), .int .i64 (ide l)]) ∧ IX f w' base kb mb (stepS S l) ∧ Below base w w' ∧ Far f w w' := by
 have hc := (Kd.R_reads' hl).2.1; have hC := (Kd.R_reads' hl).2.2; unfold idn ide stepS; by_cases hk : chk l = true
 ·have hn := numOf_rat h.good hk
  rw [if_pos hk, if_pos hk]
  cases hr : rat S l with
  | none =>
   rw [hr] at hn; rw [if_pos ⟨hk, rfl⟩]; exact iid_new h hbs hff hl hk hn hlt
  | some i =>
   rw [hr] at hn; rw [if_neg (fun c => by simp at c)]; refine (iid_found h hC hc hk (by rw [hn]; simp)).mono ?_; rintro e w' ⟨rfl, hb⟩; rw [hn]; exact ⟨zk30, h.below hb, hb.mono hbs, Far.of_below hb⟩
 ·rw [if_neg hk, if_neg hk, if_neg (fun c => hk c.1)]; refine (iid_bad h hC hc (eq_false_of_ne_true hk)).mono ?_; rintro e w' ⟨rfl, hb⟩; exact ⟨rfl, h.below hb, hb.mono hbs, Far.of_below hb⟩
theorem rid_any {f : Nat → Prop} {w : World} {base gb : Nat} {S : List (List LB)} (h : XR f w base gb S) (hbs : base ≤ w.heap.size) (hff : ∀ k, w.heap.size ≤ k → f k) {A : Option Addr} {c : Nat} {l : List LB} (hC : Kd.C k41 w A l.length l) (hc : l.length ≤ c) (hw : WLs l)
  (hlt : S.length < 4096) :
  Calls Try.prog 34 #[.pointer (some ⟨gb, 0, none⟩), .slice A l.length c] w fun e w' => e = .returned (.tuple #[.int .i64 (idn S l), .int .i64 (ide l)]) ∧ XR f w' base gb (stepS S l) ∧ Below base w w' ∧ Far f w w' := by
 obtain ⟨k, hck⟩ := wls_check hw; unfold idn ide stepS; by_cases hk : chk l = true
 ·rw [if_pos hk, if_pos hk]
  cases hr : rat S l with
  | none =>
   rw [if_pos ⟨hk, rfl⟩]; exact rid_new h hbs hff hC hc hk hr hlt
  | some i =>
   rw [if_neg (fun c => by simp at c)]; refine (rid_found h hC hc hk hr).mono ?_; rintro e w' ⟨rfl, hb⟩; exact ⟨zk30, h.below hb, hb.mono hbs, Far.of_below hb⟩
 ·rw [if_neg hk, if_neg hk, if_neg (fun c => hk c.1)]; refine (rid_bad h hC hc (k := k) (by rw [hck, eq_false_of_ne_true hk])).mono ?_; rintro e w' ⟨rfl, hb⟩; exact ⟨rfl, h.below hb, hb.mono hbs, Far.of_below hb⟩
noncomputable def setsOf (A : List (List LB)) (n : Nat) : List (List LB) := (A.take n).foldl stepS []
theorem setsOf_succ (A : List (List LB)) (n : Nat) (h : n < A.length) : setsOf A (n + 1) = stepS (setsOf A n) (A.getD n []) := by
 unfold setsOf; rw [List.take_add_one, List.getElem?_eq_getElem h, Option.toList_some, List.foldl_append, List.getD_eq_getElem?_getD, List.getElem?_eq_getElem h]; rfl
theorem stepS_len (S : List (List LB)) (l : List LB) : (stepS S l).length ≤ S.length + 1 := by
 unfold stepS; split <;> simp
theorem setsOf_len (A : List (List LB)) : ∀ n, (setsOf A n).length ≤ n
 | 0 => Nat.le_refl _
 | n + 1 => by
  by_cases h : n < A.length
  ·rw [setsOf_succ A n h]; have := setsOf_len A n; have := stepS_len (setsOf A n) (A.getD n []); omega
  ·have : setsOf A (n + 1) = setsOf A n := by unfold setsOf; rw [List.take_of_length_le zk12, List.take_of_length_le zk12]
   rw [this]; have := setsOf_len A n; omega
end Go.Proofs.Ytlkhdbfhnpbbhaa
namespace Go.Proofs.Ytlkhdbfhnpbbhaa
open Go.RowKit Go.Maps Go.Proofs.YtlkhdbfhnpbbhaaW.PrintWords Go.Proofs.YtlkhdbfhnpbbhaaW.PrintLast Go.Proofs.YtlkhdbfhnpbbhaaW.PrintMore Go.Proofs.Ytlkhdbfhnpbbhaa.Ix Go.Proofs.Ytlkhdbfhnpbbhaa.Tx Go.Proofs.Ytlkhdbfhnpbbhaa.Pure
structure Two (own : Nat → Prop) (w0 w : World) (kb mb gb : Nat) (S T : List (List LB)) : Prop where
 ex : ∃ f g : Nat → Prop, IX f w w0.heap.size kb mb S ∧ XR g w w0.heap.size gb T ∧ (∀ k, f k → ¬ g k) ∧ (∀ k, f k → own k) ∧ (∀ k, g k → own k)
 bel : Below w0.heap.size w0 w
section
variable {own : Nat → Prop} {w0 w : World} {kb mb gb : Nat} {S T : List (List LB)}
theorem Two.ix (h : Two own w0 w kb mb gb S T) : IX own w w0.heap.size kb mb S := by
 obtain ⟨f, g, hx, _, _, hf, _⟩ := h.ex; exact hx.mono hf
theorem Two.xr (h : Two own w0 w kb mb gb S T) : XR own w w0.heap.size gb T := by
 obtain ⟨f, g, _, hx, _, _, hg⟩ := h.ex; exact hx.mono hg
theorem Two.bound (h : Two own w0 w kb mb gb S T) : Two (fun k => own k ∧ w0.heap.size ≤ k ∧ k < w.heap.size) w0 w kb mb gb S T := by
 obtain ⟨f, g, h1, h2, h3, h4, h5⟩ := h.ex; exact ⟨⟨_, _, h1.bound, h2.bound, fun k a b => h3 k a.1 b.1, fun k a => ⟨h4 k a.1, a.2⟩, fun k a => ⟨h5 k a.1, a.2⟩⟩, h.bel⟩
theorem Two.mono {own' : Nat → Prop} (h : Two own w0 w kb mb gb S T) (ho : ∀ k, own k → own' k) : Two own' w0 w kb mb gb S T := by
 obtain ⟨f, g, h1, h2, h3, h4, h5⟩ := h.ex; exact ⟨⟨f, g, h1, h2, h3, fun k a => ho k (h4 k a), fun k a => ho k (h5 k a)⟩, h.bel⟩
theorem Two.below {w' : World} (h : Two own w0 w kb mb gb S T) (hb : Below w.heap.size w w') : Two own w0 w' kb mb gb S T := by
 obtain ⟨f, g, h1, h2, h3, h4, h5⟩ := h.ex; exact ⟨⟨f, g, h1.below hb, h2.below hb, h3, h4, h5⟩, h.bel.trans (hb.mono h.bel.size)⟩
theorem Two.far {ok : Nat → Prop} {w' : World} (h : Two own w0 w kb mb gb S T) (hf : Far ok w w') (ho : ∀ k, own k → ¬ ok k) (hb : Below w0.heap.size w w') : Two own w0 w' kb mb gb S T := by
 obtain ⟨f, g, h1, h2, h3, h4, h5⟩ := h.ex; exact ⟨⟨f, g, h1.far hf (fun k a => ho k (h4 k a)), h2.far hf (fun k a => ho k (h5 k a)), h3, h4, h5⟩, h.bel.trans hb⟩
theorem Two.iid (h : Two own w0 w kb mb gb S T) {A : Option Addr} {c : Nat} {l : List LB} {bl : Nat} {okl : Nat → Prop} (hl : Kd.R k41 41 w bl okl (.slice A l.length c) l) (hlt : S.length < 4096) :
  Calls Try.prog 22 #[.pointer (some ⟨kb, 0, none⟩), .slice A l.length c] w fun e w' => e = .returned (.tuple #[.int .i64 (idn S l), .int .i64 (ide l)]) ∧ Two (fun k => own k ∨ w.heap.size ≤ k) w0 w' kb mb gb (stepS S l) T ∧ Far own w w' ∧ Below w0.heap.size w w' := by
 obtain ⟨f, g, h1, h2, h3, h4, h5⟩ := h.bound.ex; refine (iid_any (h1.mono (g := fun k => f k ∨ w.heap.size ≤ k) (fun k a => Or.inl a)) h.bel.size (fun k a => Or.inr a) hl hlt).mono ?_; rintro e w' ⟨rfl, hx, hb, hf⟩; have hgf : ∀ k, g k → ¬ (f k ∨ w.heap.size ≤ k) := fun k a c => c.elim (fun c => h3 k c a) (fun c => by have := (h5 k a).2.2; omega)
 exact ⟨rfl, ⟨⟨_, g, hx, h2.far hf hgf, fun k a b => hgf k b a, fun k a => a.elim (fun a => Or.inl (h4 k a).1) Or.inr, fun k a => Or.inl (h5 k a).1⟩, h.bel.trans hb⟩,
  ⟨hf.size, fun k hk hn => hf.block k hk (fun c => c.elim (fun c => hn (h4 k c).1) (fun c => by omega))⟩, hb⟩
theorem Two.rid (h : Two own w0 w kb mb gb S T) {A : Option Addr} {c : Nat} {l : List LB} (hC : Kd.C k41 w A l.length l) (hc : l.length ≤ c) (hw : WLs l) (hlt : T.length < 4096) :
  Calls Try.prog 34 #[.pointer (some ⟨gb, 0, none⟩), .slice A l.length c] w fun e w' => e = .returned (.tuple #[.int .i64 (idn T l), .int .i64 (ide l)]) ∧ Two (fun k => own k ∨ w.heap.size ≤ k) w0 w' kb mb gb S (stepS T l) ∧ Far own w w' ∧ Below w0.heap.size w w' := by
 obtain ⟨f, g, h1, h2, h3, h4, h5⟩ := h.bound.ex; refine (rid_any (h2.mono (g := fun k => g k ∨ w.heap.size ≤ k) (fun k a => Or.inl a)) h.bel.size (fun k a => Or.inr a) hC hc hw hlt).mono ?_; rintro e w' ⟨rfl, hx, hb, hf⟩; have hgf : ∀ k, f k → ¬ (g k ∨ w.heap.size ≤ k) := fun k a c => c.elim (fun c => h3 k a c) (fun c => by have := (h4 k a).2.2; omega)
 exact ⟨rfl, ⟨⟨f, _, h1.far hf hgf, hx, hgf, fun k a => Or.inl (h4 k a).1, fun k a => a.elim (fun a => Or.inl (h5 k a).1) Or.inr⟩, h.bel.trans hb⟩,
  ⟨hf.size, fun k hk hn => hf.block k hk (fun c => c.elim (fun c => hn (h5 k c).1) (fun c => by omega))⟩, hb⟩
end
theorem labels_any {w : World} {A : Option Addr} {c : Nat} {l : List LB} (hC : Kd.C k41 w A l.length l) (hc : l.length ≤ c) (hw : l.length * 32 ≤ 140737488351232) :
  Calls Try.prog 12 #[.slice A l.length c] w fun e w' => ∃ A1 c1, e = .returned (.slice A1 l.length c1) ∧ Kd.R k41 41 w' w.heap.size (fun _ => True) (.slice A1 l.length c1) l ∧ Below w.heap.size w w' := by
 have hf : varvelaw00_Labels.f l = some l := by unfold varvelaw00_Labels.f; rw [if_pos zk51]; simp
 refine (varvelaw00_Labels.calls _ _ l l w hC hc hf).mono ?_; rintro e w' ⟨v, rfl, hr, hb⟩; obtain ⟨A1, c1, rfl⟩ := Kd.R_slice hr; exact ⟨A1, c1, rfl, hr, hb⟩
theorem sameL_any {w : World} {A B : Option Addr} {c d : Nat} {l m : List LB} (hC : Kd.C k41 w A l.length l) (hc : l.length ≤ c) (hD : Kd.C k41 w B m.length m) (hd : m.length ≤ d) (hl : l.length ≤ 140737488351232) :
  Calls Try.prog 16 #[.slice A l.length c, .slice B m.length d] w fun e w' => e = .returned (.bool (decide (l = m))) ∧ ∃ n, w' = w.drewN n :=
 (varvelaw00_SameLabels.calls (l.length + 1) A c l B d m _ w hC hc hD hd (sameL_eq l m hl _ zk12)).mono (by rintro e w' ⟨rfl, ⟨n, rfl⟩⟩; exact ⟨rfl, n, rfl⟩)
theorem label_M {w : World} {base : Nat} {ok : Nat → Prop} (a b : ByteArray) : Kd.M k41 w base ok (⟨a, b⟩ : LB) [.string a, .string b] := ⟨_, _, rfl, rfl, rfl⟩
theorem add_row (g n : Nat) : (⟨g, 0, none⟩ : Addr).add n = ⟨g, n, none⟩ := by
 unfold Addr.add; by_cases h : n = 0
 ·simp [h]
 ·simp [h]
theorem seg_eq {cs : List Value} (h : cs.length = (k41).sz) {a b : Value} : cs.take 0 ++ [a, b] ++ cs.drop (0 + [a, b].length) = [a, b] := by
 have h2 : cs.length = 2 := h; rw [List.drop_eq_nil_of_le (by rw [h2]; simp)]; rfl
set_option maxRecDepth 100000 in
set_option maxHeartbeats 8000000 in
theorem laid_u {w : World} {A : Option Addr} {c : Nat} {l : List (List LB)} (hC : (Kd.slice 41 k41).C w A l.length l) (hc : l.length ≤ c) (hw : WSs l) :
  Calls Try.prog 10 #[.slice A l.length c] w fun e w' => ∃ kb mb gb, e = .returned (.tuple #[.pointer (some ⟨kb, 0, none⟩), .pointer (some ⟨gb, 0, none⟩), .bool true]) ∧
   Two (fun _ => True) w w' kb mb gb (setsOf l (min l.length 60)) (setsOf l (min l.length 60)) := by
 have HC := Lib.hid hC; have HCL := Lib.hid hc; have HW := Lib.hid hw; have hlen := hw.2.1; clear hC hc hw; go_enter Try.func10, Try.ntmps10; (go_wp2_with (go_at_call 33; go_must (refine (inew_u _).mono ?_; rintro e w1 ⟨kb, mb, rfl, hx1, hb1⟩; have HT := Lib.hid (show Two (fun _ => True) w (w1.alloc (.cells #[.slice none 0 0] 33)) kb mb w1.heap.size [] [] from ⟨⟨fun k => w.heap.size ≤ k ∧ k < w1.heap.size, fun k => k = w1.heap.size, (hx1.bound.mono (fun k a => a.2)).below ((Below.refl _ _).alloc (Nat.le_refl _) _), ⟨⟨_, blk_new _ _, Kd.R_nil _ _ _ _ _⟩, zk30, zk30, hb1.size, rfl⟩, fun k a b => by omega, fun _ _ => trivial, fun _ _ => trivial⟩, hb1.alloc hb1.size _⟩); clear hx1 hb1))); go_loopw [7] (fun v7 wr => ∃ i : Nat, i ≤ l.length ∧ i ≤ 60 ∧ v7 = .int .i64 (i : Int) ∧ Two (fun _ => True) w wr kb mb w1.heap.size (setsOf l i) (setsOf l i)) (fun v7 _ => 60 - (intOf v7).toNat)
 case atStart => exact ⟨0, Nat.zero_le _, Nat.zero_le _, rfl, HT.out⟩
 case round =>
  obtain ⟨i, hi, hi60, rfl, hT⟩ := hrel; clear HT; by_cases hlt : i < l.length ∧ i < 60
  ·obtain ⟨hlt, hlt2⟩ := hlt
   have e1 : decide ((i : Int) < (l.length : Int)) = true := decide_eq_true zk12; have e2 : decide (i < l.length) = true := decide_eq_true hlt; have e3 : decide ((i : Int) < 60) = true := decide_eq_true zk12; have e4 : decide (i < 60) = true := decide_eq_true hlt2; obtain ⟨ad, A', c', rfl, hcell, hle, hC'⟩ := set_at HC.out i hlt; have hx : ∃ x, l.getD i [] = x := ⟨_, rfl⟩
   obtain ⟨x, hx⟩ := hx
   have hwx : WLs x := by
    rw [← hx, List.getD_eq_getElem?_getD, List.getElem?_eq_getElem hlt]; exact HW.out.2.2 _ (List.getElem_mem _)
   have hstep := setsOf_succ l i hlt; rw [hx] at hcell hle hC' hstep; have HWX := Lib.hid hwx; have hxl := hwx.1; have HST := Lib.hid hstep; have HLE := Lib.hid hle; have HCX := Lib.hid hC'; have HS60 := Lib.hid (setsOf_len l i); have HCELL := Lib.hid hcell; have hT := hT.bound; have HT0 := Lib.hid hT; have hcr := (hT.bel.cell (World.block_lt_of_cell? w _ hcell)).trans hcell; obtain ⟨S, hS⟩ : ∃ S, setsOf l i = S := ⟨_, rfl⟩
   rw [hS] at HT0 HST HS60; have HWO := Lib.hid hT.bel.size; clear hx hwx hstep hle hC' hT hcell hS; obtain ⟨wo, rfl⟩ : ∃ wo : World, wo = wr := ⟨_, rfl⟩
   go_wp2_with (first
    | (go_at_call 12; go_must (refine (labels_any (Kd.C_below HCX.out HT0.out.bel) HLE.out hxl).mono ?_; rintro e w2 ⟨A2, c2, rfl, hr2, hb2⟩; have HR2 := Lib.hid (Kd.R_bound hr2); have HT2 := Lib.hid (HT0.out.below hb2); have HB2 := Lib.hid hb2; clear hr2 hb2 hcr))
    | (go_at_call 22; go_must (refine (HT2.out.iid HR2.out zk87).mono ?_; rintro e w3 ⟨rfl, hT3, hf3, hb3⟩; have HT3 := Lib.hid hT3; have HB3 := Lib.hid hf3; have HR3 := Lib.hid (R_other HR2.out hf3 (fun k a c => by omega)); have hcr := (hT3.bel.cell (World.block_lt_of_cell? w _ HCELL.out)).trans HCELL.out; clear hT3 hf3 hb3))
    | (go_at_call 34; go_must (refine (HT3.out.rid (Kd.C_below HCX.out HT3.out.bel) HLE.out HWX.out zk87).mono ?_; rintro e w4 ⟨rfl, hT4, hf4, hb4⟩; have HT4 := Lib.hid hT4; have HR4 := Lib.hid (R_other HR3.out hf4 (fun k a c => by rcases c with c | c <;> omega)); clear hcr; have hcr := (hT4.bel.cell (World.block_lt_of_cell? w _ HCELL.out)).trans HCELL.out; clear hT4 hf4 hb4))
    | (go_at_call 16; go_must (refine (sameL_any (Kd.R_reads' HR4.out).2.2 (Kd.R_reads' HR4.out).2.1 (Kd.C_below HCX.out HT4.out.bel) HLE.out zk12).mono ?_; rintro e w5 ⟨rfl, n5, rfl⟩; have HT5 := Lib.hid (HT4.out.below (pw_below_drewN (Below.refl _ _) n5)); have HR5 := Lib.hid (Kd.R_drewN HR4.out n5); rw [decide_eq_true (rfl : x = x)])))
   have HR6 := Lib.hid (Kd.R_mono (ok' := fun k => wo.heap.size ≤ k ∧ k < w2.heap.size) HR5.out (fun k a => ⟨a.2.1, a.2.2.1⟩))
   have HT6 := Lib.hid (HT5.out.mono (own' := fun k => k < wo.heap.size ∨ w2.heap.size ≤ k) (fun k a => by
    rcases a with (a | a) | a
    ·exact Or.inl a.2.2
    ·exact Or.inr a
    ·exact Or.inr (Nat.le_trans HB3.out.size a)))
   clear HR5 HT5; obtain ⟨S', hS'⟩ : ∃ S', stepS S x = S' := ⟨_, rfl⟩
   rw [hS'] at HT6 HST; obtain ⟨wi, hwi⟩ : ∃ wi, w4.drewN n5 = wi := ⟨_, rfl⟩
   rw [hwi] at HT6 HR6; clear hcr HT0 HR2 HT2 HT3 HR3 HT4 HR4 hS'; (try rw [hwi]); clear hwi; go_loopw [13] (fun v13 wj => ∃ (k : Nat) (L : List LB), k ≤ x.length ∧ L.length = x.length ∧ v13 = .int .i64 (k : Int) ∧ Kd.R k41 41 wj wo.heap.size (fun k => wo.heap.size ≤ k ∧ k < w2.heap.size) (.slice A2 x.length c2) L ∧ Two (fun k => k < wo.heap.size ∨ w2.heap.size ≤ k) w wj kb mb w1.heap.size S' S') (fun v13 _ => x.length - (intOf v13).toNat)
   case atStart => exact ⟨0, x, Nat.zero_le _, rfl, rfl, HR6.out, HT6.out⟩
   case round =>
    obtain ⟨k, L, hk, hL, rfl, hR, hT⟩ := hrel; clear HR6 HT6; have HLL := Lib.hid hL; by_cases hkl : k < x.length
    ·obtain ⟨g, cap, hg, -⟩ := Kd.R_form hR zk12
     injection hg with hA hn hcp
     clear hn; subst hA hcp; obtain ⟨ad, cs, had, hcl, -, hcc⟩ := Kd.C_get (Kd.R_reads' hR).2.2 z41 (k : Int) zk12 zk12
     injection had with had
     subst had; have HCC := Lib.hid hcc; have HCN := Lib.hid hcl; have HR := Lib.hid hR; have HT := Lib.hid hT; have d1 : decide ((k : Int) < (x.length : Int)) = true := decide_eq_true zk12; have d2 : decide (k < x.length) = true := decide_eq_true hkl; clear hcc hcl hR hT hL; (go_wp2_with ((with_reducible refine gate_ (.store 41 (.tmp 75) (.tmp 74)) rfl ?_); go_must (refine Kd.R_store k41 (w0 := wr) wo.heap.size rfl rfl 41 (.tmp 75) (.tmp 74) rfl 41 (g := g) (n := x.length) (cap := c2) (o' := k * 2) (k : Int) 0 L z41 (.agg #[.string ⟨#[]⟩, .string ⟨#[]⟩]) [.string ⟨#[]⟩, .string ⟨#[]⟩] cs (fun k => wo.heap.size ≤ k ∧ k < w2.heap.size) (fun _ => False) ?ha ?ho ?hx rfl ?ht ?h1 HR.out zk12 zk12 HCN.out ?hcc zk40 ?hM (fun _ h => h.elim) (Below.refl _ _) ?_; (case ha => go_simp); (case ho => first | (rw [Int.toNat_natCast]; done) | (rw [Int.toNat_natCast]; rfl)); (case hx => exact zk9); (case ht => exact zk3); (case h1 => simp [Value.oneCell']); (case hcc => intro j u hu; have := HCC.out j u hu; rw [add_row] at this; rw [Int.toNat_natCast] at this ⊢; exact this); (case hM => (rw [seg_eq HCN.out]; exact label_M _ _)); intro w7 hr7 hb7 hg7; have HR7 := Lib.hid hr7; have HT7 := Lib.hid (HT.out.far ((Far.of_below (f := fun k => wo.heap.size ≤ k ∧ k < w2.heap.size) (Below.refl _ _)).grown hg7 (fun k e => by cases e; exact HR.out.1 g rfl)) (fun k a b => by omega) (hb7.mono HWO.out)); clear hr7 hb7 hg7))); go_roundw
     case rel => exact ⟨k + 1, L.set (k : Int).toNat z41, hkl, by rw [List.length_set]; exact HLL.out, zk30, HR7.out, HT7.out⟩
     case measure => simp [intOf]; omega
    ·obtain rfl : k = x.length := by omega
     have HT := Lib.hid hT; clear hR hT hL; go_wp2; go_roundw
     case rel => exact ⟨i + 1, hlt, hlt2, zk30, by rw [HST.out]; exact HT.out.mono (fun _ _ => trivial)⟩
     case measure => simp [intOf]; omega
  ·have hi2 : i = min l.length 60 := by omega
   obtain ⟨v, hv, hr⟩ := hT.xr.cells; obtain ⟨A9, c9, rfl⟩ := Kd.R_slice hr; have HT9 := Lib.hid hT; have hc9 : wr.cell? ⟨w1.heap.size, 0, none⟩ = some (.slice A9 (setsOf l i).length c9) := blk_cell hv 0; have hS60 := setsOf_len l i; clear hv hr hT
   have hpost : ∀ (w' : World), w' = wr.drew → ∃ kb' mb' gb', (Ending.returned (.tuple #[.pointer (some ⟨kb, 0, none⟩), .pointer (some ⟨w1.heap.size, 0, none⟩), .bool true]) : Ending) = .returned (.tuple #[.pointer (some ⟨kb', 0, none⟩), .pointer (some ⟨gb', 0, none⟩), .bool true]) ∧ Two (fun _ => True) w w' kb' mb' gb' (setsOf l (min l.length 60)) (setsOf l (min l.length 60)) := by
    rintro w' rfl; rw [← hi2]; exact ⟨kb, mb, _, rfl, HT9.out.below (below_drew (Below.refl _ _))⟩
   have HPOST := Lib.hid hpost; clear hpost; have e3 : i < l.length → decide ((i : Int) < 60) = false := fun h => decide_eq_false zk12; by_cases hlt2 : i < l.length
   ·have e1 : decide ((i : Int) < (l.length : Int)) = true := decide_eq_true zk12
    have e2 : decide (i < l.length) = true := decide_eq_true hlt2; replace e3 := e3 hlt2; clear hi2 hi hi60 hlt; go_wp2
    go_region_held3 (fun w' => w'.cell? ⟨w1.heap.size, 0, none⟩ = some (.slice A9 (setsOf l i).length c9))
     (exact hc9)
     (first | (go_at_call 23; refine (ilen_u (HT9.out.below (below_drew (Below.refl _ _))).ix).mono ?_; rintro e w7 ⟨rfl, rfl⟩))
    go_wp2; go_ret3
    exact HPOST.out _ rfl
   ·have e1 : decide ((i : Int) < (l.length : Int)) = false := decide_eq_false zk12
    have e2 : decide (i < l.length) = false := decide_eq_false hlt2; clear hi2 hi hi60 hlt e3; go_wp2
    go_region_held3 (fun w' => w'.cell? ⟨w1.heap.size, 0, none⟩ = some (.slice A9 (setsOf l i).length c9))
     (exact hc9)
     (first | (go_at_call 23; refine (ilen_u (HT9.out.below (below_drew (Below.refl _ _))).ix).mono ?_; rintro e w7 ⟨rfl, rfl⟩))
    go_wp2; go_ret3
    exact HPOST.out _ rfl
end Go.Proofs.Ytlkhdbfhnpbbhaa
namespace Go.Proofs.Ytlkhdbfhnpbbhaa
open Go.RowKit Go.Maps Go.Proofs.YtlkhdbfhnpbbhaaW.PrintWords Go.Proofs.YtlkhdbfhnpbbhaaW.PrintLast Go.Proofs.YtlkhdbfhnpbbhaaW.PrintMore Go.Proofs.Ytlkhdbfhnpbbhaa.Ix Go.Proofs.Ytlkhdbfhnpbbhaa.Tx Go.Proofs.Ytlkhdbfhnpbbhaa.Pure
def exS : List LB := [⟨⟨#[97]⟩, ⟨#[49]⟩⟩]
theorem exS_chk : chk exS = true := by decide +kernel
theorem exS_sel : sel (hasVal (⟨#[98]⟩ : ByteArray) (⟨#[]⟩ : ByteArray)) [exS] 1 = [0] := by decide +kernel
theorem exI : varvelaw00_SameInts.f 5 [0] [0] = some true := by decide +kernel
theorem exS_reps {w : World} {base : Nat} {ok : Nat → Prop} : Reps (k41.M w base ok) k41.sz exS [.string ⟨#[97]⟩, .string ⟨#[49]⟩] := by
 refine ⟨rfl, fun j p h => ?_⟩
 rcases j with _ | j
 ·obtain rfl := Option.some.inj h; exact ⟨_, _, rfl, rfl, rfl⟩
 ·simp [exS] at h
theorem ints_R {w : World} {base : Nat} {v : Value} {xs : List Int} (h : w.ownsRow base 3 1 v xs.length (xs.map (.int .i64))) : Kd.R (Kd.int .i64) 3 w base (fun _ => True) v xs :=
 Kd.R_of_own h (fun _ _ => trivial)
set_option maxRecDepth 100000 in
set_option maxHeartbeats 8000000 in
theorem iawake_u (w : World) : Calls Try.prog 20 #[] w fun e w' => e = .returned (.bool true) ∧ Below w.heap.size w w' := by
 go_enter Try.func20, Try.ntmps20
 go_wp2_with (first
  | (go_at_call 33; go_must (refine (inew_u _).mono ?_; rintro e w1 ⟨kb, mb, rfl, hx1, hb1⟩; have HX1 := Lib.hid hx1; have HB1 := Lib.hid hb1; clear hx1 hb1))
  | ((with_reducible refine gate_dst (N := 10) rfl ?_); go_must (refine Kd.R_lit k41 _ 41 ?hg (N := 10) ?hd (xs := exS) (inner := [.string ⟨#[97]⟩, .string ⟨#[49]⟩]) (ok := fun _ => True) (okp := fun _ => True) ?hr ?hp (fun _ hk => hk) trivial (Below.refl _ _) (Nat.le_refl _) (by simp [exS]) ?_; (case hd => exact zk16); (case hg => exact zk16); (case hr => exact zk9); (case hp => exact exS_reps); intro v2 w2 ho2 hb2 hg_ hnew_; obtain ⟨A2, c2, rfl⟩ := Kd.R_slice ho2; have HO2 := Lib.hid ho2; have HB2 := Lib.hid hb2; clear hg_ hnew_ ho2 hb2))
  | (go_at_call 22; go_must (refine (iid_new (HX1.out.below HB2.out) (Nat.le_trans HB1.out.size HB2.out.size) (fun k hk => Nat.le_trans (Nat.le_trans HB1.out.size HB2.out.size) hk) HO2.out exS_chk rfl zk30).mono ?_; rintro e w3 ⟨rfl, hx3, hb3, -⟩; have HX3 := Lib.hid hx3; have HB3 := Lib.hid hb3; clear hx3 hb3))
  | (go_at_call 18; go_must (refine (ipost_u HX3.out zk30 (⟨#[98]⟩ : ByteArray) (⟨#[]⟩ : ByteArray) (k := 5) (by rw [show ([] ++ [exS] : List (List LB)).length = 1 from rfl, show ([] ++ [exS] : List (List LB)) = [exS] from rfl, exS_sel]; rfl)).mono ?_; rintro e w4 ⟨v4, rfl, hr4, hb4⟩; rw [show ([] ++ [exS] : List (List LB)).length = 1 from rfl, show ([] ++ [exS] : List (List LB)) = [exS] from rfl, exS_sel] at hr4; obtain ⟨A4, c4, rfl, hle4, hC4⟩ := Kd.R_reads (ints_R (xs := [0]) hr4); have HC4 := Lib.hid hC4; have HLE4 := Lib.hid hle4; have HB4 := Lib.hid hb4; have HX4 := Lib.hid (HX3.out.below hb4); clear hr4 hb4 hC4 hle4))
  | ((with_reducible refine gate_dst (N := 23) rfl ?_); go_must ((try (refine gate_guard zk16 ?_; dsimp only)); refine Kd.R_lit (Kd.int .i64) _ 3 ?hg (N := 23) ?hd (xs := ([0] : List Int)) (inner := [.int .i64 0]) (ok := fun _ => True) (okp := fun _ => True) ?hr ?hp (fun _ hk => hk) trivial (Below.refl _ _) (Nat.le_refl _) zk30 ?_; (case hd => exact zk16); (case hg => exact zk16); (case hr => exact zk9); (case hp => exact (Reps.one (show Kd.M (Kd.int .i64) _ _ _ 0 [.int .i64 0] from rfl) (Reps.none _ _))); intro v5 w5 ho5 hb5 hg_ hnew_; obtain ⟨A5, c5, rfl, hle5, hC5⟩ := Kd.R_reads ho5; have HC5 := Lib.hid hC5; have HLE5 := Lib.hid hle5; have HB5 := Lib.hid hb5; have HX5 := Lib.hid (HX4.out.below hb5); clear hg_ hnew_ ho5 hb5 hC5 hle5))
  | (go_at_call 17; go_must (refine (varvelaw00_SameInts.calls 5 A4 c4 [0] A5 c5 [0] true _ (Kd.C_below HC4.out HB5.out) HLE4.out HC5.out HLE5.out exI).mono ?_; rintro e w6 ⟨rfl, ⟨nd, rfl⟩⟩; have HX6 := Lib.hid (HX5.out.below (pw_below_drewN (Below.refl w5.heap.size w5) nd))))
  | (go_at_call 23; go_must (refine (ilen_u HX6.out).mono ?_; rintro e w7 ⟨rfl, rfl⟩)))
 go_ret
 have b2 := HB1.out.trans (HB2.out.mono HB1.out.size); have b3 := b2.trans HB3.out; have b4 := b3.trans (HB4.out.mono b3.size); have b5 := b4.trans (HB5.out.mono b4.size); exact ⟨rfl, pw_below_drewN b5 _⟩
end Go.Proofs.Ytlkhdbfhnpbbhaa
namespace Go.Proofs.Ytlkhdbfhnpbbhaa
open Go.RowKit Go.Maps Go.Proofs.YtlkhdbfhnpbbhaaW.PrintWords Go.Proofs.YtlkhdbfhnpbbhaaW.PrintLast Go.Proofs.YtlkhdbfhnpbbhaaW.PrintMore Go.Proofs.Ytlkhdbfhnpbbhaa.Ix Go.Proofs.Ytlkhdbfhnpbbhaa.Tx Go.Proofs.Ytlkhdbfhnpbbhaa.Pure
section
variable {own : Nat → Prop} {w0 w : World} {kb mb gb : Nat} {S T : List (List LB)}
end
theorem sameI_any {w : World} {A B : Option Addr} {c d : Nat} {l m : List Int} (hC : Kd.C (Kd.int .i64) w A l.length l) (hc : l.length ≤ c) (hD : Kd.C (Kd.int .i64) w B m.length m) (hd : m.length ≤ d) (hl : l.length ≤ 140737488351232) :
  Calls Try.prog 17 #[.slice A l.length c, .slice B m.length d] w fun e w' => e = .returned (.bool (decide (l = m))) ∧ ∃ n, w' = w.drewN n :=
 (varvelaw00_SameInts.calls (l.length + 1) A c l B d m _ w hC hc hD hd (sameI_eq l m hl _ zk12)).mono (by rintro e w' ⟨rfl, ⟨n, rfl⟩⟩; exact ⟨rfl, n, rfl⟩)
end Go.Proofs.Ytlkhdbfhnpbbhaa
namespace Go.Proofs.Ytlkhdbfhnpbbhaa
open Go.RowKit Go.Proofs.YtlkhdbfhnpbbhaaW.PrintWords Go.Proofs.Ytlkhdbfhnpbbhaa.Ix Go.Proofs.Ytlkhdbfhnpbbhaa.Tx Go.Proofs.Ytlkhdbfhnpbbhaa.Pure
abbrev VV := ByteArray × Int
def emp : ByteArray := ⟨#[]⟩
def bl (a b : ByteArray) : Prop := a.data.toList < b.data.toList
instance (a b : ByteArray) : Decidable (bl a b) := by unfold bl; infer_instance
end Go.Proofs.Ytlkhdbfhnpbbhaa
namespace Go.Proofs.Ytlkhdbfhnpbbhaa
open Go.RowKit Go.Maps Go.Proofs.YtlkhdbfhnpbbhaaW.PrintWords Go.Proofs.YtlkhdbfhnpbbhaaW.PrintLast Go.Proofs.YtlkhdbfhnpbbhaaW.PrintMore Go.Proofs.Ytlkhdbfhnpbbhaa.Ix Go.Proofs.Ytlkhdbfhnpbbhaa.Tx Go.Proofs.Ytlkhdbfhnpbbhaa.Pure
theorem emp_list : ByteArray.toList emp = [] := by unfold emp; simp
theorem emp_iff (v : ByteArray) : v.toList = [] ↔ v = emp := ⟨fun h => bytes_ext (by rw [h, emp_list]), fun h => by rw [h, emp_list]⟩
end Go.Proofs.Ytlkhdbfhnpbbhaa
namespace Go.Proofs.Ytlkhdbfhnpbbhaa
open Go.RowKit Go.Proofs.YtlkhdbfhnpbbhaaW.PrintWords Go.Proofs.YtlkhdbfhnpbbhaaW.PrintLast Go.Proofs.YtlkhdbfhnpbbhaaW.PrintMore Go.Proofs.Ytlkhdbfhnpbbhaa.Ix Go.Proofs.Ytlkhdbfhnpbbhaa.Tx Go.Proofs.Ytlkhdbfhnpbbhaa.Mx Go.Proofs.Ytlkhdbfhnpbbhaa.Pure
abbrev MT := S54
inductive WM : MT → Prop
 | mk {m : MT} : m.f1.size ≤ 140737488351232 → m.f2.size ≤ 140737488351232 → m.f3.length * 16 ≤ 140737488351232 → (∀ v ∈ m.f3, v.size ≤ 140737488351232) → m.f4.length * 88 ≤ 140737488351232 → (∀ k ∈ m.f4, WM k) → WM m
theorem WM.n {m : MT} (h : WM m) : m.f1.size ≤ 140737488351232 := by cases h; assumption
theorem WM.v {m : MT} (h : WM m) : m.f2.size ≤ 140737488351232 := by cases h; assumption
theorem WM.l {m : MT} (h : WM m) : m.f3.length * 16 ≤ 140737488351232 := by cases h; assumption
theorem WM.s {m : MT} (h : WM m) : ∀ v ∈ m.f3, v.size ≤ 140737488351232 := by cases h; assumption
theorem WM.c {m : MT} (h : WM m) : m.f4.length * 88 ≤ 140737488351232 := by cases h; assumption
theorem WM.k {m : MT} (h : WM m) : ∀ k ∈ m.f4, WM k := by cases h; assumption
def valOk (l : List ByteArray) (i : Nat) : Bool := decide ((rdOf ByteArray.empty l (i : Int)).size ≤ 64) && (decide (i = 0) || Op.bytesLess (rdOf ByteArray.empty l ((i : Int) - 1)).toList (rdOf ByteArray.empty l (i : Int)).toList)
def valsFrom (l : List ByteArray) : Nat → Nat → Bool
 | 0, _ => true
 | d + 1, i => valOk l i && valsFrom l d (i + 1)
def valsB (l : List ByteArray) : Bool := decide (1 ≤ l.length) && decide (l.length ≤ 16) && valsFrom l l.length 0
theorem vals_round (l : List ByteArray) (i : Nat) (hi : i < l.length) (hl : l.length ≤ 16) (X : Option Bool) (r : Bool) (hX : X = some r) :
  (if ((rdOf ByteArray.empty l (i : Int)).size : Int) > 64 then (some false) else (if (i : Int) > 0 then (if 0 ≤ (wrap64 ((i : Int) - 1)) then (if (wrap64 ((i : Int) - 1)) < (l.length : Int) then (if ((Op.bytesLess ((rdOf ByteArray.empty l (wrap64 ((i : Int) - 1))).toList) ((rdOf ByteArray.empty l (i : Int)).toList)) = true) then X else (some false)) else (none)) else (none)) else X)) = some (valOk l i && r) := by
 unfold valOk; by_cases h1 : (rdOf ByteArray.empty l (i : Int)).size ≤ 64
 ·rw [if_neg zk12, decide_eq_true h1, Bool.true_and]
  by_cases h2 : i = 0
  ·subst h2; rw [if_neg zk12, hX]; simp
  ·rw [if_pos zk12, w64 zk12 zk12, if_pos zk12, if_pos zk12, decide_eq_false h2, Bool.false_or]
   by_cases h3 : Op.bytesLess (rdOf ByteArray.empty l ((i : Int) - 1)).toList (rdOf ByteArray.empty l (i : Int)).toList = true
   ·rw [if_pos h3, h3, hX, Bool.true_and]
   ·rw [if_neg h3, eq_false_of_ne_true h3, Bool.false_and]
 ·rw [if_pos zk12, decide_eq_false h1, Bool.false_and, Bool.false_and]
theorem vals_l0 (l : List ByteArray) (hl : l.length ≤ 16) : ∀ (d i k : Nat), i + d = l.length → d < k → match_values.l0 k l l (l.length : Int) (i : Int) = some (valsFrom l d i)
 | 0, i, k, h, hk => by
  obtain ⟨k, rfl⟩ : ∃ n, k = n + 1 := ⟨k - 1, zk12⟩
  rw [match_values.l0, if_neg zk12]; rfl
 | d + 1, i, k, h, hk => by
  obtain ⟨k, rfl⟩ : ∃ n, k = n + 1 := ⟨k - 1, zk12⟩
  have ih := vals_l0 l hl d (i + 1) k zk12 zk12; rw [Int.natCast_add, Int.natCast_one] at ih; rw [match_values.l0, if_pos zk12, if_pos zk12, if_pos zk12, w64 (i := (i : Int) + 1) zk12 zk12]; exact vals_round l i zk12 hl _ _ ih
theorem rvals_l0 (l : List ByteArray) (hl : l.length ≤ 16) : ∀ (d i k : Nat), i + d = l.length → d < k → varveref12_values.l0 k l (i : Int) = some (valsFrom l d i)
 | 0, i, k, h, hk => by
  obtain ⟨k, rfl⟩ : ∃ n, k = n + 1 := ⟨k - 1, zk12⟩
  rw [varveref12_values.l0, if_neg zk12]; rfl
 | d + 1, i, k, h, hk => by
  obtain ⟨k, rfl⟩ : ∃ n, k = n + 1 := ⟨k - 1, zk12⟩
  have ih := rvals_l0 l hl d (i + 1) k zk12 zk12; rw [Int.natCast_add, Int.natCast_one] at ih; rw [varveref12_values.l0, if_pos zk12, if_pos zk12, w64 (i := (i : Int) + 1) zk12 zk12]; exact vals_round l i zk12 hl _ _ ih
theorem values_eq (l : List ByteArray) (k : Nat) (hk : 40 ≤ k) : match_values.f k l = some (valsB l) := by
 obtain ⟨k, rfl⟩ : ∃ n, k = n + 1 := ⟨k - 1, zk12⟩
 unfold match_values.f valsB; by_cases h1 : 1 ≤ l.length
 ·rw [if_neg zk12, decide_eq_true h1, Bool.true_and]
  by_cases h2 : l.length ≤ 16
  ·rw [match_values.j0, if_neg zk51, decide_eq_true h2, Bool.true_and]; exact vals_l0 l h2 l.length 0 k zk12 zk12
  ·rw [match_values.j0, if_pos zk51, decide_eq_false h2, Bool.false_and]
 ·rw [if_pos zk12, match_values.j0, if_pos rfl, decide_eq_false h1, Bool.false_and, Bool.false_and]
theorem rvalues_eq (l : List ByteArray) (k : Nat) (hk : 40 ≤ k) : varveref12_values.f k l = some (valsB l) := by
 obtain ⟨k, rfl⟩ : ∃ n, k = n + 1 := ⟨k - 1, zk12⟩
 unfold varveref12_values.f valsB; by_cases h1 : 1 ≤ l.length
 ·rw [if_neg zk12, decide_eq_true h1, Bool.true_and]
  by_cases h2 : l.length ≤ 16
  ·rw [varveref12_values.j0, if_neg zk51, decide_eq_true h2, Bool.true_and]; exact rvals_l0 l h2 l.length 0 k zk12 zk12
  ·rw [varveref12_values.j0, if_pos zk51, decide_eq_false h2, Bool.false_and]
 ·rw [if_pos zk12, varveref12_values.j0, if_pos rfl, decide_eq_false h1, Bool.false_and, Bool.false_and]
def namedB (m : MT) : Bool := nm m.f1 && decide (m.f2.size ≤ 64) && decide (m.f4.length = 0)
def plainB (m : MT) : Bool := decide (m.f1 = emp) && decide (m.f2 = emp) && decide (m.f3.length = 0)
def okOp (m : MT) : Bool :=
 if m.f0 = 0 then plainB m && decide (m.f4.length = 0)
 else if m.f0 = 1 ∨ m.f0 = 2 ∨ m.f0 = 3 then namedB m && decide (m.f3.length = 0)
 else if m.f0 = 4 then namedB m && decide (m.f2 = emp) && valsB m.f3
 else if m.f0 = 5 ∨ m.f0 = 6 then plainB m
 else if m.f0 = 7 then plainB m && decide (m.f4.length = 1)
 else false
def sumN (f : MT → Nat) (l : List MT) : Nat := (l.map f).sum
def strsN (l : List ByteArray) : Nat := (l.map (·.size)).sum
def okD : Nat → MT → Bool
 | 0, _ => false
 | d + 1, m => okOp m && m.f4.all (okD d)
def nodesD : Nat → MT → Nat
 | 0, _ => 0
 | d + 1, m => 1 + sumN (nodesD d) m.f4
def bytesD : Nat → MT → Nat
 | 0, _ => 0
 | d + 1, m => m.f1.size + m.f2.size + strsN m.f3 + sumN (bytesD d) m.f4
def okM (d n b : Nat) (m : MT) : Prop := okD d m = true ∧ nodesD d m ≤ n ∧ bytesD d m ≤ b
def okL (d n b : Nat) (l : List MT) : Prop := (∀ k ∈ l, okD d k = true) ∧ sumN (nodesD d) l ≤ n ∧ sumN (bytesD d) l ≤ b
instance (d n b : Nat) (m : MT) : Decidable (okM d n b m) := by unfold okM; infer_instance
theorem sumN_cons (f : MT → Nat) (k : MT) (l : List MT) : sumN f (k :: l) = f k + sumN f l := by simp [sumN]
theorem okL_nil (d n b : Nat) : okL d n b [] := ⟨by simp, Nat.zero_le _, Nat.zero_le _⟩
theorem okL_cons (d n b : Nat) (k : MT) (l : List MT) : okL d n b (k :: l) ↔ okM d n b k ∧ okL d (n - nodesD d k) (b - bytesD d k) l := by
 unfold okL okM; rw [sumN_cons, sumN_cons]; constructor
 ·rintro ⟨h1, h2, h3⟩; exact ⟨⟨h1 k List.mem_cons_self, zk12, zk12⟩, fun x hx => h1 x (List.mem_cons_of_mem _ hx), zk12, zk12⟩
 ·rintro ⟨⟨h1, h2, h3⟩, h4, h5, h6⟩; exact ⟨fun x hx => (List.mem_cons.1 hx).elim (fun e => by rw [e]; exact h1) (h4 x), zk12, zk12⟩
theorem okM_succ (d n b : Nat) (m : MT) (hn : 1 ≤ n) (hb : m.f1.size + m.f2.size + strsN m.f3 ≤ b) : okM (d + 1) n b m ↔ okOp m = true ∧ okL d (n - 1) (b - (m.f1.size + m.f2.size + strsN m.f3)) m.f4 := by
 unfold okM okL; simp only [okD, nodesD, bytesD, Bool.and_eq_true, List.all_eq_true]; constructor
 ·rintro ⟨⟨h1, h2⟩, h3, h4⟩; exact ⟨h1, h2, zk12, zk12⟩
 ·rintro ⟨h1, h2, h3, h4⟩; exact ⟨⟨h1, h2⟩, zk12, zk12⟩
theorem okM_op {d n b : Nat} {m : MT} (h : okM (d + 1) n b m) : okOp m = true := by
 have := h.1; simp only [okD, Bool.and_eq_true] at this; exact this.1
theorem okM_room {d n b : Nat} {m : MT} (h : okM (d + 1) n b m) : 1 ≤ n ∧ m.f1.size + m.f2.size + strsN m.f3 ≤ b := by
 have h1 := h.2.1; have h2 := h.2.2; simp only [nodesD, bytesD] at h1 h2; omega
end Go.Proofs.Ytlkhdbfhnpbbhaa
namespace Go.Proofs.Ytlkhdbfhnpbbhaa
open Go.RowKit Go.Proofs.YtlkhdbfhnpbbhaaW.PrintWords Go.Proofs.YtlkhdbfhnpbbhaaW.PrintLast Go.Proofs.YtlkhdbfhnpbbhaaW.PrintMore Go.Proofs.Ytlkhdbfhnpbbhaa.Ix Go.Proofs.Ytlkhdbfhnpbbhaa.Tx Go.Proofs.Ytlkhdbfhnpbbhaa.Mx Go.Proofs.Ytlkhdbfhnpbbhaa.Pure
theorem len_beq (n : Nat) (k : Nat) : (((n : Nat) : Int) == ((k : Nat) : Int)) = decide (n = k) := by
 rw [Bool.eq_iff_iff, beq_iff_eq, decide_eq_true_eq]; omega
theorem alone_j3 (k : Nat) (x4 x69 : Bool) (o : Int) (a : Int) (b c : ByteArray) (d : List ByteArray) (e : List MT) : match_alone.j3 (k + 1) x4 o x69 a b c d e = some (if x69 = true then x4 else if o = 7 then x4 && decide (e.length = 1) else false) := by
 rw [match_alone.j3]; by_cases h : x69 = true
 ·rw [if_pos h, if_pos h]
 ·rw [if_neg h, if_neg h]
  by_cases h7 : o = 7
  ·rw [if_pos h7, if_pos h7]
   cases x4
   ·rfl
   ·exact congrArg some (len_beq e.length 1)
  ·rw [if_neg h7, if_neg h7]
theorem alone_j2 (k : Nat) (hk : 40 ≤ k) (x3 x4 x45 : Bool) (o : Int) (a : Int) (b c : ByteArray) (d : List ByteArray) (e : List MT) : match_alone.j2 (k + 1) x3 x4 o x45 a b c d e =
  some (if x45 = true then x3 && decide (d.length = 0) else if o = 4 then x3 && decide (c = emp) && valsB d else if o = 5 ∨ o = 6 then x4 else if o = 7 then x4 && decide (e.length = 1) else false) := by
 obtain ⟨k, rfl⟩ : ∃ n, k = n + 1 := ⟨k - 1, zk12⟩
 rw [match_alone.j2]; by_cases h : x45 = true
 ·rw [if_pos h, if_pos h]
  cases x3
  ·rfl
  ·exact congrArg some (len_beq d.length 0)
 ·rw [if_neg h, if_neg h]
  by_cases h4 : o = 4
  ·rw [if_pos h4, if_pos h4]
   cases x3
   ·rfl
   ·rw [if_pos rfl, Bool.true_and]
    by_cases hc : c = emp
    ·rw [if_pos ((emp_iff c).2 hc), values_eq d (k + 1) zk12, decide_eq_true hc, Bool.true_and]; rfl
    ·rw [if_neg (fun q => hc ((emp_iff c).1 q)), decide_eq_false hc, Bool.false_and]
  ·rw [if_neg h4, if_neg h4]
   by_cases h5 : o = 5
   ·rw [if_pos h5, alone_j3, if_pos (by rw [h5]; rfl), if_pos (Or.inl h5)]
   ·rw [if_neg h5, alone_j3]
    by_cases h6 : o = 6
    ·rw [if_pos (by rw [h6]; rfl), if_pos (Or.inr h6)]
    ·rw [if_neg (by simpa using h6), if_neg (show ¬ (o = 5 ∨ o = 6) from fun c => c.elim h5 h6)]
theorem alone_j1 (k : Nat) (hk : 40 ≤ k) (x3 x4 : Bool) (o : Int) (b c : ByteArray) (d : List ByteArray) (e : List MT) : match_alone.j1 (k + 2) x3 x4 o b c d e = some (if o = 0 then x4 && decide (e.length = 0) else if o = 1 ∨ o = 2 ∨ o = 3 then x3 && decide (d.length = 0) else if o = 4 then x3 && decide (c = emp) && valsB d else if o = 5 ∨ o = 6 then x4 else if o = 7 then x4 && decide (e.length = 1) else false) := by
 rw [match_alone.j1]; by_cases h0 : o = 0
 ·rw [if_pos h0, if_pos h0]
  cases x4
  ·rfl
  ·exact congrArg some (len_beq e.length 0)
 ·rw [if_neg h0, if_neg h0]
  by_cases h1 : o = 1
  ·rw [if_pos h1, alone_j2 k hk, if_pos (by rw [h1]; rfl), if_pos (Or.inl h1)]
  ·rw [if_neg h1]
   by_cases h2 : o = 2
   ·rw [if_pos h2, alone_j2 k hk, if_pos (by rw [h2]; rfl), if_pos (Or.inr (Or.inl h2))]
   ·rw [if_neg h2, alone_j2 k hk]
    by_cases h3 : o = 3
    ·rw [if_pos (by rw [h3]; rfl), if_pos (Or.inr (Or.inr h3))]
    ·rw [if_neg (by simpa using h3), if_neg (show ¬ (o = 1 ∨ o = 2 ∨ o = 3) from fun c => c.elim h1 (fun c => c.elim h2 h3))]
theorem alone_eq (m : MT) (k : Nat) (hk : 60 ≤ k) : match_alone.f k m.f0 m.f1 m.f2 m.f3 m.f4 = some (okOp m) := by
 obtain ⟨k, rfl⟩ : ∃ n, k = n + 3 := ⟨k - 3, zk12⟩
 have j0 : ∀ (x3 : Bool), match_alone.j0 (k + 3) x3 m.f0 m.f1 m.f2 m.f3 m.f4 = match_alone.j1 (k + 2) x3 (plainB m) m.f0 m.f1 m.f2 m.f3 m.f4 := by
  intro x3; rw [match_alone.j0]; unfold plainB; by_cases h1 : m.f1 = emp
  ·rw [if_pos ((emp_iff _).2 h1), decide_eq_true h1, Bool.true_and]
   by_cases h2 : m.f2 = emp
   ·rw [if_pos ((emp_iff _).2 h2), decide_eq_true h2, Bool.true_and, show (((m.f3.length : Nat) : Int) == 0) = decide (m.f3.length = 0) from len_beq m.f3.length 0]
   ·rw [if_neg (fun q => h2 ((emp_iff _).1 q)), decide_eq_false h2, Bool.false_and]
  ·rw [if_neg (fun q => h1 ((emp_iff _).1 q)), decide_eq_false h1, Bool.false_and, Bool.false_and]
 have hn : match_alone.f (k + 3) m.f0 m.f1 m.f2 m.f3 m.f4 = match_alone.j0 (k + 3) (namedB m) m.f0 m.f1 m.f2 m.f3 m.f4 := by
  unfold match_alone.f namedB; rw [name_eq m.f1 (k + 3) zk12, Option.bind_some]; by_cases h1 : nm m.f1 = true
  ·rw [if_pos h1, h1, Bool.true_and]
   by_cases h2 : m.f2.size ≤ 64
   ·rw [if_pos zk12, decide_eq_true h2, Bool.true_and, show (((m.f4.length : Nat) : Int) == 0) = decide (m.f4.length = 0) from len_beq m.f4.length 0]
   ·rw [if_neg zk12, decide_eq_false h2, Bool.false_and]
  ·rw [if_neg h1, eq_false_of_ne_true h1, Bool.false_and, Bool.false_and]
 rw [hn, j0, alone_j1 k zk12]; rfl
theorem okOp_small {m : MT} (h : okOp m = true) : m.f1.size ≤ 32 ∧ m.f2.size ≤ 64 ∧ m.f3.length ≤ 16 ∧ strsN m.f3 ≤ 1024 := by
 have hnm : namedB m = true → m.f1.size ≤ 32 ∧ m.f2.size ≤ 64 := fun h => by
  unfold namedB nm at h; simp only [Bool.and_eq_true, decide_eq_true_eq] at h; omega
 have hpl : plainB m = true → m.f1.size ≤ 32 ∧ m.f2.size ≤ 64 ∧ m.f3.length ≤ 16 ∧ strsN m.f3 ≤ 1024 := fun h => by
  unfold plainB at h; simp only [Bool.and_eq_true, decide_eq_true_eq] at h; obtain ⟨⟨h1, h2⟩, h3⟩ := h; have h4 := List.eq_nil_of_length_eq_zero h3; rw [h1, h2, h4]; exact ⟨Nat.zero_le _, Nat.zero_le _, zk30, by simp [strsN]⟩
 have hv : ∀ (l : List ByteArray), valsB l = true → l.length ≤ 16 ∧ strsN l ≤ 1024 := fun l h => by
  unfold valsB at h; simp only [Bool.and_eq_true, decide_eq_true_eq] at h; obtain ⟨⟨h1, h2⟩, h3⟩ := h; refine ⟨h2, ?_⟩
  have hall : ∀ (d i : Nat), i + d = l.length → valsFrom l d i = true → strsN (l.drop i) ≤ 64 * d := by
   intro d
   induction d with
   | zero => intro i hi _; rw [List.drop_eq_nil_of_le zk12]; simp [strsN]
   | succ d ih =>
    intro i hi hh; simp only [valsFrom, Bool.and_eq_true] at hh; have h5 := ih (i + 1) zk12 hh.2; have h6 := hh.1; unfold valOk at h6; simp only [Bool.and_eq_true, decide_eq_true_eq] at h6; rw [List.drop_eq_getElem_cons zk12]; have h7 : (rdOf ByteArray.empty l (i : Int)) = l[i]'zk12 := by simp [rdOf, show i < l.length by omega]
    rw [h7] at h6; simp only [strsN, List.map_cons, List.sum_cons] at h5 ⊢; omega
  have := hall l.length 0 zk12 h3; rw [List.drop_zero] at this; omega
 unfold okOp at h; split at h
 ·simp only [Bool.and_eq_true] at h; exact hpl h.1
 ·split at h
  ·simp only [Bool.and_eq_true, decide_eq_true_eq] at h; have h1 := hnm h.1; have h4 := List.eq_nil_of_length_eq_zero h.2; rw [h4]; exact ⟨h1.1, h1.2, zk30, by simp [strsN]⟩
  ·split at h
   ·simp only [Bool.and_eq_true] at h; have h1 := hnm h.1.1; exact ⟨h1.1, h1.2, hv _ h.2⟩
   ·split at h
    ·exact hpl h
    ·split at h
     ·simp only [Bool.and_eq_true] at h; exact hpl h.1
     ·cases h
end Go.Proofs.Ytlkhdbfhnpbbhaa
namespace Go.Proofs.Ytlkhdbfhnpbbhaa
open Go.RowKit Go.Proofs.YtlkhdbfhnpbbhaaW.PrintWords Go.Proofs.YtlkhdbfhnpbbhaaW.PrintLast Go.Proofs.YtlkhdbfhnpbbhaaW.PrintMore Go.Proofs.Ytlkhdbfhnpbbhaa.Ix Go.Proofs.Ytlkhdbfhnpbbhaa.Tx Go.Proofs.Ytlkhdbfhnpbbhaa.Mx Go.Proofs.Ytlkhdbfhnpbbhaa.Pure
structure MK (w : World) (m : MT) (A3 : Option Addr) (c3 : Nat) (A4 : Option Addr) (c4 : Nat) : Prop where
 l3 : m.f3.length ≤ c3
 g3 : Kd.string.C w A3 m.f3.length m.f3
 l4 : m.f4.length ≤ c4
 g4 : k54.C w A4 m.f4.length m.f4
theorem MK.below {w w' : World} {m : MT} {A3 A4 : Option Addr} {c3 c4 : Nat} (h : MK w m A3 c3 A4 c4) (hb : Below w.heap.size w w') : MK w' m A3 c3 A4 c4 := ⟨h.l3, Kd.C_below h.g3 hb, h.l4, Kd.C_below h.g4 hb⟩
abbrev mval (m : MT) (A3 : Option Addr) (c3 : Nat) (A4 : Option Addr) (c4 : Nat) : Value := .agg #[.int .i64 m.f0, .string m.f1, .string m.f2, .slice A3 m.f3.length c3, .slice A4 m.f4.length c4]
abbrev mobj (m : MT) (A3 : Option Addr) (c3 : Nat) (A4 : Option Addr) (c4 : Nat) : Array Value := #[.int .i64 m.f0, .string m.f1, .string m.f2, .slice A3 m.f3.length c3, .slice A4 m.f4.length c4]
theorem box5 {w : World} {g : Nat} {m : MT} {A3 A4 : Option Addr} {c3 c4 : Nat} (h : w.heap[g]? = some (.cells (mobj m A3 c3 A4 c4) 54 (0, 0))) :
  w.cell? ⟨g, 0, none⟩ = some (.int .i64 m.f0) ∧ w.cell? ⟨g, 1, none⟩ = some (.string m.f1) ∧ w.cell? ⟨g, 2, none⟩ = some (.string m.f2) ∧ w.cell? ⟨g, 3, none⟩ = some (.slice A3 m.f3.length c3) ∧ w.cell? ⟨g, 4, none⟩ = some (.slice A4 m.f4.length c4) :=
 ⟨blk_cell h 0, blk_cell h 1, blk_cell h 2, blk_cell h 3, blk_cell h 4⟩
theorem kid_at {w : World} {A : Option Addr} {n : Nat} {xs : List MT} (h : k54.C w A n xs) (i : Nat) (hi : i < n) : ∃ ad A3 c3 A4 c4, A = some ad ∧ MK w (rd_T54 xs (i : Int)) A3 c3 A4 c4 ∧
  w.cell? (ad.add (i * 5)) = some (.int .i64 (rd_T54 xs (i : Int)).f0) ∧ w.cell? ⟨(ad.add (i * 5)).block, (ad.add (i * 5)).off + 1, none⟩ = some (.string (rd_T54 xs (i : Int)).f1) ∧ w.cell? ⟨(ad.add (i * 5)).block, (ad.add (i * 5)).off + 2, none⟩ = some (.string (rd_T54 xs (i : Int)).f2) ∧
  w.cell? ⟨(ad.add (i * 5)).block, (ad.add (i * 5)).off + 3, none⟩ = some (.slice A3 (rd_T54 xs (i : Int)).f3.length c3) ∧ w.cell? ⟨(ad.add (i * 5)).block, (ad.add (i * 5)).off + 4, none⟩ = some (.slice A4 (rd_T54 xs (i : Int)).f4.length c4) := by
 obtain ⟨ad, A3, c3, A4, c4, e, h0, h1, h2, h3, h4, l3, g3, l4, g4⟩ := at_T54 h (i : Int) zk12 zk12; rw [Int.toNat_natCast] at h0 h1 h2 h3 h4; exact ⟨ad, A3, c3, A4, c4, e, ⟨l3, g3, l4, g4⟩, h0, h1, h2, h3, h4⟩
theorem kid_mem {xs : List MT} {i : Nat} (hi : i < xs.length) : rd_T54 xs (i : Int) ∈ xs := by
 unfold rd_T54; rw [Int.toNat_natCast, List.getD_eq_getElem?_getD, List.getElem?_eq_getElem hi]; exact List.getElem_mem _
def TinyPost (nb : Nat) (w : World) (e : Ending) (w' : World) : Prop := ∃ (r : Bool) (N' : Nat), e = .returned (.bool r) ∧ w'.heap[nb]? = some (.cells #[.int .i64 (N' : Int)] 3 (0, 0)) ∧ (r = true → N' ≤ 200) ∧ Below nb w w' ∧ Far (fun k => k = nb) w w'
set_option maxRecDepth 100000 in
set_option maxHeartbeats 8000000 in
theorem tiny_u : ∀ (d : Nat), d ≤ 12 → ∀ {wm w : World} {nb : Nat} {N : Nat} {m : MT} {A3 A4 : Option Addr} {c3 c4 : Nat} (_ : MK wm m A3 c3 A4 c4) (_ : WM m) (_ : Below wm.heap.size wm w) (_ : wm.heap.size ≤ nb) (_ : N ≤ 200) (_ : w.heap[nb]? = some (.cells #[.int .i64 (N : Int)] 3 (0, 0))),
  Calls Try.prog 44 #[mval m A3 c3 A4 c4, .pointer (some ⟨nb, 0, none⟩), .int .i64 (12 - (d : Int))] w (TinyPost nb w) := by
 intro d
 induction d with
 | zero =>
  intro _ wm w nb N m A3 A4 c3 c4 hmk hwm hb hnb hN hr; have hnw := (Array.getElem?_eq_some_iff.1 hr).1; have hc0 : w.cell? ⟨nb, 0, none⟩ = some (.int .i64 (N : Int)) := blk_cell hr 0; have HMK := Lib.hid hmk; have HWM := Lib.hid hwm; have HBM := Lib.hid hb; have HNB := Lib.hid hnb; have HR := Lib.hid hr; have HNW := Lib.hid hnw; have hk1 := hwm.c; have hk2 := hwm.l; clear hmk hwm hb hnb hr hnw hc0; go_enter Try.func44, Try.ntmps44
  go_upto_region 2 with (first
   | ((with_reducible refine gate_dst (N := 3) rfl ?_); go_must (refine box_event ?hg (N := 3) ?hd (cs := mobj m A3 c3 A4 c4) (t := 54) ?hr ?_; (case hd => exact zk16); (case hg => exact zk16); (case hr => exact zk9); intro gb hg w1 hbox hb1; have hn1 := (hb1.block nb HNW.out).trans HR.out; have hnc : w1.cell? ⟨nb, 0, none⟩ = some (.int .i64 (N : Int)) := blk_cell hn1 0; have hnf : w1.frozen? ⟨nb, 0, none⟩ = false := blk_frozen hn1 0; have HBOX := Lib.hid hbox; have HB1 := Lib.hid hb1; have HN1 := Lib.hid hn1; have HG := Lib.hid hg; clear hbox hb1 hn1 hg))
   | ((with_reducible refine gate_store (t := 3) (p := 13) rfl ?_); go_must (refine store_event (t := 3) (p := 13) (v := .tmp 12) (w1 := w1.setCell ⟨nb, 0, none⟩ (.int .i64 ((N : Int) + 1))) ?hg ?ho ?hn ?hr ?_; (case ho => exact zk16); (case hg => exact zk16); (case hn => exact zk16); (case hr => exact zk9); intro w2 hw2; have HW2 := Lib.hid hw2; clear hw2)))
  have hn2 : w2.heap[nb]? = some (.cells #[.int .i64 ((N : Int) + 1)] 3 (0, 0)) := zk74
  have hgn : gb ≠ nb := zk59
  have hbox2 : w2.heap[gb]? = some (.cells (mobj m A3 c3 A4 c4) 54 (0, 0)) := zk76
  have hb2 : Below nb w w2 := zk64
  have hf2 : Far (fun k => k = nb) w w2 := zk67
  have hnc2 : w2.cell? ⟨nb, 0, none⟩ = some (.int .i64 ((N : Int) + 1)) := blk_cell hn2 0; obtain ⟨b0, b1, b2, b3, b4⟩ := box5 hbox2; have HN2 := Lib.hid hn2; have HX2 := Lib.hid hbox2; have HB2 := Lib.hid hb2; have HF2 := Lib.hid hf2; have HGN := Lib.hid hgn; have HFAIL := Lib.hid (show TinyPost nb w (.returned (.bool false)) w2 from ⟨false, N + 1, rfl, by rw [hn2]; simp, zk30, hb2, hf2⟩); clear hn2 hbox2 hb2 hf2 hnc HBOX HN1 hnf hgn HW2 HB1; go_wp2; (all_goals (go_ret; exact HFAIL.out))
 | succ d ih =>
  intro hd wm w nb N m A3 A4 c3 c4 hmk hwm hb hnb hN hr; have hnw := (Array.getElem?_eq_some_iff.1 hr).1; have hc0 : w.cell? ⟨nb, 0, none⟩ = some (.int .i64 (N : Int)) := blk_cell hr 0; have HMK := Lib.hid hmk; have HWM := Lib.hid hwm; have HBM := Lib.hid hb; have HNB := Lib.hid hnb; have HR := Lib.hid hr; have HNW := Lib.hid hnw; have ih2 := @ih zk12; rw [show (12 : Int) - (d : Int) = 12 - ((d : Int) + 1) + 1 by omega] at ih2; have HIH := Lib.hid (fun (_ : Unit) => @ih2); have hk1 := hwm.c; have hk2 := hwm.l; clear ih ih2 hmk hwm hb hnb hr hnw hc0; go_enter Try.func44, Try.ntmps44
  go_upto_region 2 with (first
   | ((with_reducible refine gate_dst (N := 3) rfl ?_); go_must (refine box_event ?hg (N := 3) ?hd (cs := mobj m A3 c3 A4 c4) (t := 54) ?hr ?_; (case hd => exact zk16); (case hg => exact zk16); (case hr => exact zk9); intro gb hg w1 hbox hb1; have hn1 := (hb1.block nb HNW.out).trans HR.out; have hnc : w1.cell? ⟨nb, 0, none⟩ = some (.int .i64 (N : Int)) := blk_cell hn1 0; have hnf : w1.frozen? ⟨nb, 0, none⟩ = false := blk_frozen hn1 0; have HBOX := Lib.hid hbox; have HB1 := Lib.hid hb1; have HN1 := Lib.hid hn1; have HG := Lib.hid hg; clear hbox hb1 hn1 hg))
   | ((with_reducible refine gate_store (t := 3) (p := 13) rfl ?_); go_must (refine store_event (t := 3) (p := 13) (v := .tmp 12) (w1 := w1.setCell ⟨nb, 0, none⟩ (.int .i64 ((N : Int) + 1))) ?hg ?ho ?hn ?hr ?_; (case ho => exact zk16); (case hg => exact zk16); (case hn => exact zk16); (case hr => exact zk9); intro w2 hw2; have HW2 := Lib.hid hw2; clear hw2)))
  have hn2 : w2.heap[nb]? = some (.cells #[.int .i64 ((N : Int) + 1)] 3 (0, 0)) := zk74
  have hgn : gb ≠ nb := zk59
  have hbox2 : w2.heap[gb]? = some (.cells (mobj m A3 c3 A4 c4) 54 (0, 0)) := zk76
  have hb2 : Below nb w w2 := zk64
  have hf2 : Far (fun k => k = nb) w w2 := zk67
  have hnc2 : w2.cell? ⟨nb, 0, none⟩ = some (.int .i64 ((N : Int) + 1)) := blk_cell hn2 0; obtain ⟨b0, b1, b2, b3, b4⟩ := box5 hbox2; have HN2 := Lib.hid hn2; have HX2 := Lib.hid hbox2; have HB2 := Lib.hid hb2; have HF2 := Lib.hid hf2; have HGN := Lib.hid hgn; have HFAIL := Lib.hid (show TinyPost nb w (.returned (.bool false)) w2 from ⟨false, N + 1, rfl, by rw [hn2]; simp, zk30, hb2, hf2⟩); clear hn2 hbox2 hb2 hf2 hnc HBOX HN1 hnf hgn HW2 HB1; have hd11 : (11 : Int) < 12 - ((d : Int) + 1) ↔ False := ⟨fun h => by omega, fun h => h.elim⟩
  go_wp2; (all_goals first | (go_ret; exact HFAIL.out) | skip); have hN2 : N + 1 ≤ 200 := zk12
  have HN200 := Lib.hid hN2; clear hN2; go_loopw [7] (fun v7 wk => ∃ i : Nat, i ≤ m.f3.length ∧ v7 = .int .i64 (i : Int) ∧ w2 = wk) (fun v7 _ => m.f3.length - (intOf v7).toNat)
  case atStart => exact ⟨0, Nat.zero_le _, rfl, rfl⟩
  case round =>
   obtain ⟨i, hi, rfl, rfl⟩ := hrel; by_cases hil : i < m.f3.length
   ·have e1 : decide ((i : Int) < (m.f3.length : Int)) = true := decide_eq_true zk12
    have e2 : decide (i < m.f3.length) = true := decide_eq_true hil; obtain ⟨ad, rfl, hs⟩ := Kd.at_string (Kd.C_below HMK.out.g3 (HBM.out.trans (HB2.out.mono HNB.out))) (i : Int) zk12 zk12; rw [Int.toNat_natCast] at hs; obtain ⟨s, hse⟩ : ∃ s, rdOf ByteArray.empty m.f3 (i : Int) = s := ⟨_, rfl⟩
    rw [hse] at hs; by_cases hsz : 300 < s.size
    ·have e3 : decide ((300 : Int) < (s.size : Int)) = true := decide_eq_true zk12
     have e4 : decide (300 < s.size) = true := decide_eq_true hsz; go_wp2; go_ret
     exact HFAIL.out
    ·have e3 : decide ((300 : Int) < (s.size : Int)) = false := decide_eq_false zk12
     have e4 : decide (300 < s.size) = false := decide_eq_false hsz; go_wp2; go_roundw
     case rel => exact ⟨i + 1, hil, zk30, by first | rfl | trivial⟩
     case measure => simp [intOf]; omega
   ·have e1 : decide ((i : Int) < (m.f3.length : Int)) = false := decide_eq_false zk12
    have e2 : decide (i < m.f3.length) = false := decide_eq_false hil; go_wp2; go_loopw [8] (fun v8 wk => ∃ (j N' : Nat), j ≤ m.f4.length ∧ v8 = .int .i64 (j : Int) ∧ N' ≤ 200 ∧ wk.heap[nb]? = some (.cells #[.int .i64 (N' : Int)] 3 (0, 0)) ∧ Below nb w wk ∧ Far (fun k => k = nb) w2 wk) (fun v8 _ => m.f4.length - (intOf v8).toNat)
    case atStart => exact ⟨0, N + 1, Nat.zero_le _, rfl, HN200.out, by rw [HN2.out]; simp, HB2.out, Far.of_below (Below.refl _ _)⟩
    case round =>
     obtain ⟨j, N', hj, rfl, hN', hn', hbk, hfk⟩ := hrel; clear b0 b1 b2 b3 b4 hnc2; have hxk := (hfk.block gb (Array.getElem?_eq_some_iff.1 HX2.out).1 HGN.out).trans HX2.out; obtain ⟨b0, b1, b2, b3, b4⟩ := box5 hxk; have HBK := Lib.hid hbk; have HFK := Lib.hid hfk; have HNK := Lib.hid hn'; have HXK := Lib.hid hxk; have HFW := Lib.hid (HF2.out.trans hfk); by_cases hjl : j < m.f4.length
     ·have e3 : decide ((j : Int) < (m.f4.length : Int)) = true := decide_eq_true zk12
      have e4 : decide (j < m.f4.length) = true := decide_eq_true hjl; obtain ⟨ad, K3, q3, K4, q4, rfl, hkm, k0, k1, k2, k3, k4⟩ := kid_at HMK.out.g4 j hjl; have hbm : Below wm.heap.size wm wr := HBM.out.trans (hbk.mono HNB.out); replace k0 := (hbm.cell (World.block_lt_of_cell? wm _ k0)).trans k0; replace k1 := (hbm.cell (World.block_lt_of_cell? wm _ k1)).trans k1; replace k2 := (hbm.cell (World.block_lt_of_cell? wm _ k2)).trans k2; replace k3 := (hbm.cell (World.block_lt_of_cell? wm _ k3)).trans k3; replace k4 := (hbm.cell (World.block_lt_of_cell? wm _ k4)).trans k4; have hkw := HWM.out.k _ (kid_mem hjl); obtain ⟨y, hy⟩ : ∃ y, rd_T54 m.f4 (j : Int) = y := ⟨_, rfl⟩
      rw [hy] at hkm k0 k1 k2 k3 k4 hkw; have HCALL := Lib.hid (HIH.out () hkm hkw hbm HNB.out hN' hn'); clear hkm hkw hbm hy hn' hbk hfk hxk; (go_wp2_with (go_at_call 44; go_must (refine HCALL.out.mono ?_; rintro e w5 ⟨r, N5, rfl, hn5, hr5, hb5, hf5⟩; have HN5 := Lib.hid hn5; have HR5 := Lib.hid hr5; have HB5 := Lib.hid (HBK.out.trans hb5); have HF5 := Lib.hid (HFK.out.trans hf5); have HFW5 := Lib.hid (HFW.out.trans hf5); clear hn5 hr5 hb5 hf5))); (all_goals first | (go_ret; exact ⟨false, N5, rfl, HN5.out, zk30, HB5.out, HFW5.out⟩) | skip); have hrt : r = true := by simpa using (by assumption : (!r) = false)
      go_roundw
      case rel => exact ⟨j + 1, N5, hjl, zk30, HR5.out hrt, HN5.out, HB5.out, HF5.out⟩
      case measure => simp [intOf]; omega
     ·have e3 : decide ((j : Int) < (m.f4.length : Int)) = false := decide_eq_false zk12
      have e4 : decide (j < m.f4.length) = false := decide_eq_false hjl; clear hn' hbk hfk hxk; go_wp2; go_ret
      exact ⟨true, N', rfl, HNK.out, fun _ => hN', HBK.out, HFW.out⟩
set_option maxRecDepth 100000 in
set_option maxHeartbeats 8000000 in
theorem tinyB_u {w : World} {m : MT} {A3 A4 : Option Addr} {c3 c4 : Nat} (hmk : MK w m A3 c3 A4 c4) (hwm : WM m) :
  Calls Try.prog 24 #[mval m A3 c3 A4 c4] w fun e w' => ∃ r : Bool, e = .returned (.bool r) ∧ Below w.heap.size w w' := by
 have HMK := Lib.hid hmk; have HWM := Lib.hid hwm; clear hmk hwm; go_enter Try.func24, Try.ntmps24
 go_wp2_with (first
  | ((with_reducible refine gate_dst (N := 1) rfl ?_); go_must (refine box_event ?hg (N := 1) ?hd (cs := mobj m A3 c3 A4 c4) (t := 54) ?hr ?_; (case hd => exact zk16); (case hg => exact zk16); (case hr => exact zk9); intro gb hg w1 hbox hb1; obtain ⟨b0, b1, b2, b3, b4⟩ := box5 hbox; have HBOX := Lib.hid hbox; have HB1 := Lib.hid hb1; have HG := Lib.hid hg; clear hbox hb1 hg))
  | ((with_reducible refine gate_dst (N := 3) rfl ?_); go_must (refine box_event ?hg (N := 3) ?hd (cs := #[.int .i64 0]) (t := 3) ?hr ?_; (case hd => exact zk16); (case hg => exact zk16); (case hr => exact zk9); intro nb hn w2 hbox hb2; have hbox2 := (hb2.block gb (Array.getElem?_eq_some_iff.1 HBOX.out).1).trans HBOX.out; clear b0 b1 b2 b3 b4; obtain ⟨b0, b1, b2, b3, b4⟩ := box5 hbox2; have hcn : w2.cell? ⟨nb, 0, none⟩ = some (.int .i64 0) := blk_cell hbox 0; have hfn : w2.frozen? ⟨nb, 0, none⟩ = false := blk_frozen hbox 0; have HN := Lib.hid hbox; have HB2 := Lib.hid hb2; have HGN := Lib.hid hn; have HBOX2 := Lib.hid hbox2; clear hbox hb2 hn hbox2))
  | ((with_reducible refine gate_store (t := 3) (p := 3) rfl ?_); go_must (refine store_event (t := 3) (p := 3) (v := .const (.int .i64 0)) (w1 := w2.setCell ⟨nb, 0, none⟩ (.int .i64 0)) ?hg ?ho ?hn ?hr ?_; (case ho => exact zk16); (case hg => exact zk16); (case hn => exact zk16); (case hr => exact zk9); intro w3 hw3; have hn3 : w3.heap[nb]? = some (.cells #[.int .i64 ((0 : Nat) : Int)] 3 (0, 0)) := (by rw [hw3]; exact blk_put HN.out 0 _ rfl); have hx3 : w3.heap[gb]? = some (.cells (mobj m A3 c3 A4 c4) 54 (0, 0)) := (by rw [hw3]; exact (Below.heap_setCell _ ⟨nb, 0, none⟩ _ gb (by rw [HGN.out]; exact Nat.ne_of_lt (Array.getElem?_eq_some_iff.1 HBOX.out).1)).trans HBOX2.out); have hb3 : Below w.heap.size w w3 := (by rw [hw3]; exact (HB1.out.trans (HB2.out.mono HB1.out.size)).setCell (p := ⟨nb, 0, none⟩) (by rw [HGN.out]; exact HB1.out.size) _); clear b0 b1 b2 b3 b4 hcn hfn; obtain ⟨b0, b1, b2, b3, b4⟩ := box5 hx3; have HN3 := Lib.hid hn3; have HB3 := Lib.hid hb3; have HNB := Lib.hid (show w.heap.size ≤ nb by rw [HGN.out]; exact HB1.out.size); clear hn3 hx3 hb3 hw3))
  | (go_at_call 44; go_must (refine (tiny_u 12 (Nat.le_refl _) HMK.out HWM.out HB3.out HNB.out (Nat.zero_le _) HN3.out).mono ?_; rintro e w5 ⟨r, N5, rfl, -, -, hb5, -⟩; have HB5 := Lib.hid (HB3.out.trans (hb5.mono HNB.out)); clear hb5)))
 go_ret
 exact ⟨r, rfl, HB5.out⟩
end Go.Proofs.Ytlkhdbfhnpbbhaa
namespace Go.Proofs.Ytlkhdbfhnpbbhaa
open Go.RowKit Go.Proofs.YtlkhdbfhnpbbhaaW.PrintWords Go.Proofs.YtlkhdbfhnpbbhaaW.PrintLast Go.Proofs.YtlkhdbfhnpbbhaaW.PrintMore Go.Proofs.Ytlkhdbfhnpbbhaa.Ix Go.Proofs.Ytlkhdbfhnpbbhaa.Tx Go.Proofs.Ytlkhdbfhnpbbhaa.Mx Go.Proofs.Ytlkhdbfhnpbbhaa.Pure
def HoldsPost (d n b : Nat) (m : MT) (rb : Nat) (w : World) (e : Ending) (w' : World) : Prop := ∃ (r : Bool) (x y : Int), e = .returned (.bool r) ∧ (r = true ↔ okM d n b m) ∧ (r = true → x = ((n - nodesD d m : Nat) : Int) ∧ y = ((b - bytesD d m : Nat) : Int)) ∧ w'.heap[rb]? = some (.cells #[.int .i64 x, .int .i64 y] 97 (0, 0)) ∧ Below rb w w' ∧ Far (fun k => k = rb) w w'
theorem alone_u {w : World} {m : MT} {A3 A4 : Option Addr} {c3 c4 : Nat} (h : MK w m A3 c3 A4 c4) : Calls Try.prog 71 #[mval m A3 c3 A4 c4] w fun e w' => e = .returned (.bool (okOp m)) ∧ Below w.heap.size w w' :=
 match_alone.calls 60 _ _ _ _ _ _ _ _ _ _ w h.g3 h.l3 h.g4 h.l4 (alone_eq m 60 (Nat.le_refl _))
theorem strsN_drop (l : List ByteArray) (i : Nat) (hi : i < l.length) : strsN (l.drop i) = (rdOf ByteArray.empty l (i : Int)).size + strsN (l.drop (i + 1)) := by
 have h : rdOf ByteArray.empty l (i : Int) = l[i] := by simp [rdOf, hi]
 rw [List.drop_eq_getElem_cons hi, h]; unfold strsN; rw [List.map_cons, List.sum_cons]
theorem strsN_drop_le (l : List ByteArray) (i : Nat) : strsN (l.drop i) ≤ strsN l := by
 induction i with
 | zero => exact Nat.le_refl _
 | succ i ih =>
  by_cases h : i < l.length
  ·have := strsN_drop l i h; omega
  ·rw [List.drop_eq_nil_of_le zk12]; exact Nat.zero_le _
def put5 (w : World) (kb : Nat) (y : MT) (K3 : Option Addr) (q3 : Nat) (K4 : Option Addr) (q4 : Nat) : World :=
 ((((w.setCell ⟨kb, 0, none⟩ (.int .i64 y.f0)).setCell ⟨kb, 1, none⟩ (.string y.f1)).setCell ⟨kb, 2, none⟩ (.string y.f2)).setCell ⟨kb, 3, none⟩ (.slice K3 y.f3.length q3)).setCell ⟨kb, 4, none⟩ (.slice K4 y.f4.length q4)
theorem put5_at {w : World} {kb : Nat} {y : MT} {K3 : Option Addr} {q3 : Nat} {K4 : Option Addr} {q4 : Nat} {t : TypeId} (h : w.heap[kb]? = some (.cells #[.int .i64 0, .string ByteArray.empty, .string ByteArray.empty, .slice none 0 0, .slice none 0 0] t (0, 0))) : (put5 w kb y K3 q3 K4 q4).heap[kb]? = some (.cells (mobj y K3 q3 K4 q4) t (0, 0)) := by
 unfold put5; refine blk_put (cs := #[.int .i64 y.f0, .string y.f1, .string y.f2, .slice K3 y.f3.length q3, .slice none 0 0]) ?_ 4 _ rfl; refine blk_put (cs := #[.int .i64 y.f0, .string y.f1, .string y.f2, .slice none 0 0, .slice none 0 0]) ?_ 3 _ rfl; refine blk_put (cs := #[.int .i64 y.f0, .string y.f1, .string ByteArray.empty, .slice none 0 0, .slice none 0 0]) ?_ 2 _ rfl; refine blk_put (cs := #[.int .i64 y.f0, .string ByteArray.empty, .string ByteArray.empty, .slice none 0 0, .slice none 0 0]) ?_ 1 _ rfl; exact blk_put h 0 _ rfl
theorem put5_below {n : Nat} {w0 w : World} {kb : Nat} {y : MT} {K3 : Option Addr} {q3 : Nat} {K4 : Option Addr} {q4 : Nat} (h : Below n w0 w) (hk : n ≤ kb) : Below n w0 (put5 w kb y K3 q3 K4 q4) :=
 ((((h.setCell (p := ⟨kb, 0, none⟩) hk _).setCell (p := ⟨kb, 1, none⟩) hk _).setCell (p := ⟨kb, 2, none⟩) hk _).setCell (p := ⟨kb, 3, none⟩) hk _).setCell (p := ⟨kb, 4, none⟩) hk _
theorem zero5 {w : World} {g : Nat} {t : TypeId} (h : w.heap[g]? = some (.cells #[.int .i64 0, .string ByteArray.empty, .string ByteArray.empty, .slice none 0 0, .slice none 0 0] t (0, 0))) :
  w.cell? ⟨g, 0, none⟩ = some (.int .i64 0) ∧ w.cell? ⟨g, 1, none⟩ = some (.string ByteArray.empty) ∧ w.cell? ⟨g, 2, none⟩ = some (.string ByteArray.empty) ∧ w.cell? ⟨g, 3, none⟩ = some (.slice none 0 0) ∧ w.cell? ⟨g, 4, none⟩ = some (.slice none 0 0) ∧
  w.frozen? ⟨g, 0, none⟩ = false ∧ w.frozen? ⟨g, 1, none⟩ = false ∧ w.frozen? ⟨g, 2, none⟩ = false ∧ w.frozen? ⟨g, 3, none⟩ = false ∧ w.frozen? ⟨g, 4, none⟩ = false :=
 ⟨blk_cell h 0, blk_cell h 1, blk_cell h 2, blk_cell h 3, blk_cell h 4, blk_frozen h 0, blk_frozen h 1, blk_frozen h 2, blk_frozen h 3, blk_frozen h 4⟩
theorem kids_drop (l : List MT) (i : Nat) (hi : i < l.length) : l.drop i = rd_T54 l (i : Int) :: l.drop (i + 1) := by
 rw [List.drop_eq_getElem_cons hi]; congr 1; simp [rd_T54, hi]
def KidsRel (d n b : Nat) (m : MT) (n' b' j : Nat) : Prop := (okM (d + 1) n b m ↔ okL d n' b' (m.f4.drop j)) ∧ nodesD (d + 1) m + n' = n + sumN (nodesD d) (m.f4.drop j) ∧ bytesD (d + 1) m + b' = b + sumN (bytesD d) (m.f4.drop j)
theorem kids_start {d n b : Nat} {m : MT} (h : okM (d + 1) n b m ↔ okL d (n - 1) (b - (m.f1.size + m.f2.size + strsN m.f3)) m.f4) (hn : ¬ n = 0) (ht : m.f1.size + m.f2.size + strsN m.f3 ≤ b) : KidsRel d n b m (n - 1) (b - (m.f1.size + m.f2.size + strsN m.f3)) 0 := by
 refine ⟨by rw [List.drop_zero]; exact h, ?_, ?_⟩ <;> rw [List.drop_zero] <;> simp only [nodesD, bytesD] <;> omega
theorem kids_step {d n b : Nat} {m : MT} {n' b' j : Nat} (h : KidsRel d n b m n' b' j) (hj : j < m.f4.length) (hk : okM d n' b' (rd_T54 m.f4 (j : Int))) : KidsRel d n b m (n' - nodesD d (rd_T54 m.f4 (j : Int))) (b' - bytesD d (rd_T54 m.f4 (j : Int))) (j + 1) := by
 obtain ⟨h1, h2, h3⟩ := h; rw [kids_drop _ _ hj] at h1 h2 h3; rw [sumN_cons] at h2 h3; rw [okL_cons] at h1; have := hk.2.1; have := hk.2.2; exact ⟨h1.trans (and_iff_right hk), zk12, zk12⟩
theorem kids_bad {d n b : Nat} {m : MT} {n' b' j : Nat} (h : KidsRel d n b m n' b' j) (hj : j < m.f4.length) (hk : ¬ okM d n' b' (rd_T54 m.f4 (j : Int))) : ¬ okM (d + 1) n b m := by
 intro c; have h1 := h.1.1 c; rw [kids_drop _ _ hj, okL_cons] at h1; exact hk h1.1
theorem kids_end {d n b : Nat} {m : MT} {n' b' j : Nat} (h : KidsRel d n b m n' b' j) (hj : m.f4.length ≤ j) : okM (d + 1) n b m ∧ n' = n - nodesD (d + 1) m ∧ b' = b - bytesD (d + 1) m := by
 obtain ⟨h1, h2, h3⟩ := h; rw [List.drop_eq_nil_of_le hj] at h1 h2 h3; rw [show sumN (nodesD d) [] = 0 from rfl] at h2; rw [show sumN (bytesD d) [] = 0 from rfl] at h3; have hm := h1.2 (okL_nil d n' b'); have := hm.2.1; have := hm.2.2; exact ⟨hm, zk12, zk12⟩
theorem holds_no {d n b rb : Nat} {m : MT} {w w' : World} {x y : Int} (h : ¬ okM d n b m) (hr : w'.heap[rb]? = some (.cells #[.int .i64 x, .int .i64 y] 97 (0, 0))) (hb : Below rb w w') (hf : Far (fun k => k = rb) w w') : HoldsPost d n b m rb w (.returned (.bool false)) w' :=
 ⟨false, x, y, rfl, ⟨fun e => absurd e zk30, fun c => absurd c h⟩, fun e => absurd e zk30, hr, hb, hf⟩
set_option maxRecDepth 100000 in
set_option maxHeartbeats 8000000 in
theorem holds_u : ∀ (d : Nat), d ≤ 8 → ∀ {wm w : World} {rb : Nat} {n b : Nat} {m : MT} {A3 A4 : Option Addr} {c3 c4 : Nat} (_ : MK wm m A3 c3 A4 c4) (_ : WM m) (_ : Below wm.heap.size wm w) (_ : wm.heap.size ≤ rb) (_ : n ≤ 64) (_ : b ≤ 4096) (_ : w.heap[rb]? = some (.cells #[.int .i64 (n : Int), .int .i64 (b : Int)] 97 (0, 0))),
  Calls Try.prog 60 #[.pointer (some ⟨rb, 0, none⟩), mval m A3 c3 A4 c4, .int .i64 (9 - (d : Int))] w (HoldsPost d n b m rb w) := by
 intro d
 induction d with
 | zero =>
  intro _ wm w rb n b m A3 A4 c3 c4 hmk hwm hb hrb hN hbb hr; have hnw := (Array.getElem?_eq_some_iff.1 hr).1; have hc0 : w.cell? ⟨rb, 0, none⟩ = some (.int .i64 (n : Int)) := blk_cell hr 0; have HMK := Lib.hid hmk; have HWM := Lib.hid hwm; have HBM := Lib.hid hb; have HRB := Lib.hid hrb; have HR := Lib.hid hr; have HNW := Lib.hid hnw; have hk1 := hwm.c; have hk2 := hwm.l; clear hmk hwm hb hrb hr hnw hc0; go_enter Try.func60, Try.ntmps60
  go_upto_region 2 with (first
   | ((with_reducible refine gate_dst (N := 4) rfl ?_); go_must (refine box_event ?hg (N := 4) ?hd (cs := mobj m A3 c3 A4 c4) (t := 54) ?hr ?_; (case hd => exact zk16); (case hg => exact zk16); (case hr => exact zk9); intro gb hg w1 hbox hb1; have hn1 := (hb1.block rb HNW.out).trans HR.out; have hnc : w1.cell? ⟨rb, 0, none⟩ = some (.int .i64 (n : Int)) := blk_cell hn1 0; have hnf : w1.frozen? ⟨rb, 0, none⟩ = false := blk_frozen hn1 0; have HBOX := Lib.hid hbox; have HB1 := Lib.hid hb1; have HN1 := Lib.hid hn1; have HG := Lib.hid hg; clear hbox hb1 hn1 hg))
   | ((with_reducible refine gate_store (t := 3) (p := 17) rfl ?_); go_must (refine store_event (t := 3) (p := 17) (v := .tmp 15) (w1 := w1.setCell ⟨rb, 0, none⟩ (.int .i64 ((n : Int) - 1))) ?hg ?ho ?hn ?hr ?_; (case ho => exact zk16); (case hg => exact zk16); (case hn => exact zk16); (case hr => exact zk9); intro w2 hw2; have HW2 := Lib.hid hw2; clear hw2)))
  have hn2 : w2.heap[rb]? = some (.cells #[.int .i64 ((n : Int) - 1), .int .i64 (b : Int)] 97 (0, 0)) := zk74
  have hgn : gb ≠ rb := zk59
  have hbox2 : w2.heap[gb]? = some (.cells (mobj m A3 c3 A4 c4) 54 (0, 0)) := zk77
  have hb2 : Below rb w w2 := zk65
  have hf2 : Far (fun k => k = rb) w w2 := zk68
  have hnc2 : w2.cell? ⟨rb, 0, none⟩ = some (.int .i64 ((n : Int) - 1)) := blk_cell hn2 0; obtain ⟨b0, b1, b2, b3, b4⟩ := box5 hbox2; have HN2 := Lib.hid hn2; have HX2 := Lib.hid hbox2; have HB2 := Lib.hid hb2; have HF2 := Lib.hid hf2; have HGN := Lib.hid hgn; clear hn2 hbox2 hb2 hf2 hnc HBOX HN1 hnf hgn HW2 HB1; have HNO := Lib.hid (holds_no (d := 0) (n := n) (b := b) (m := m) (fun h => by have := h.1; cases this) HN2.out HB2.out HF2.out); go_wp2; go_ret
  exact HNO.out
 | succ d ih =>
  intro hd wm w rb n b m A3 A4 c3 c4 hmk hwm hb hrb hN hbb hr; have hnw := (Array.getElem?_eq_some_iff.1 hr).1; have hc0 : w.cell? ⟨rb, 0, none⟩ = some (.int .i64 (n : Int)) := blk_cell hr 0; have HMK := Lib.hid hmk; have HWM := Lib.hid hwm; have HBM := Lib.hid hb; have HRB := Lib.hid hrb; have HR := Lib.hid hr; have HNW := Lib.hid hnw; have ih2 := @ih zk12; rw [show (9 : Int) - (d : Int) = 9 - ((d : Int) + 1) + 1 by omega] at ih2; have HIH := Lib.hid (fun (_ : Unit) => @ih2); have hk1 := hwm.c; have hk2 := hwm.l; clear ih ih2 hmk hwm hb hrb hr hnw hc0; go_enter Try.func60, Try.ntmps60
  go_upto_region 2 with (first
   | ((with_reducible refine gate_dst (N := 4) rfl ?_); go_must (refine box_event ?hg (N := 4) ?hd (cs := mobj m A3 c3 A4 c4) (t := 54) ?hr ?_; (case hd => exact zk16); (case hg => exact zk16); (case hr => exact zk9); intro gb hg w1 hbox hb1; have hn1 := (hb1.block rb HNW.out).trans HR.out; have hnc : w1.cell? ⟨rb, 0, none⟩ = some (.int .i64 (n : Int)) := blk_cell hn1 0; have hnf : w1.frozen? ⟨rb, 0, none⟩ = false := blk_frozen hn1 0; have HBOX := Lib.hid hbox; have HB1 := Lib.hid hb1; have HN1 := Lib.hid hn1; have HG := Lib.hid hg; clear hbox hb1 hn1 hg))
   | ((with_reducible refine gate_store (t := 3) (p := 17) rfl ?_); go_must (refine store_event (t := 3) (p := 17) (v := .tmp 15) (w1 := w1.setCell ⟨rb, 0, none⟩ (.int .i64 ((n : Int) - 1))) ?hg ?ho ?hn ?hr ?_; (case ho => exact zk16); (case hg => exact zk16); (case hn => exact zk16); (case hr => exact zk9); intro w2 hw2; have HW2 := Lib.hid hw2; clear hw2)))
  have hn2 : w2.heap[rb]? = some (.cells #[.int .i64 ((n : Int) - 1), .int .i64 (b : Int)] 97 (0, 0)) := zk74
  have hgn : gb ≠ rb := zk59
  have hbox2 : w2.heap[gb]? = some (.cells (mobj m A3 c3 A4 c4) 54 (0, 0)) := zk77
  have hb2 : Below rb w w2 := zk65
  have hf2 : Far (fun k => k = rb) w w2 := zk68
  have hnc2 : w2.cell? ⟨rb, 0, none⟩ = some (.int .i64 ((n : Int) - 1)) := blk_cell hn2 0; obtain ⟨b0, b1, b2, b3, b4⟩ := box5 hbox2; have HN2 := Lib.hid hn2; have HX2 := Lib.hid hbox2; have HB2 := Lib.hid hb2; have HF2 := Lib.hid hf2; have HGN := Lib.hid hgn; clear hn2 hbox2 hb2 hf2 hnc HBOX HN1 hnf hgn HW2 HB1; have hd8 : (8 : Int) < 9 - ((d : Int) + 1) ↔ False := ⟨fun h => by omega, fun h => h.elim⟩
  by_cases hn0 : n = 0
  ·have e0 : (n : Int) - 1 < 0 ↔ True := ⟨fun _ => trivial, fun _ => by omega⟩
   have HNO := Lib.hid (holds_no (d := d + 1) (n := n) (b := b) (m := m) (fun h => by have := (okM_room h).1; omega) HN2.out HB2.out HF2.out); clear hn0; go_wp2; go_ret
   exact HNO.out
  ·have e0 : (n : Int) - 1 < 0 ↔ False := ⟨fun h => by omega, fun h => h.elim⟩
   have HN0 := Lib.hid hn0; clear hn0; have HAL := Lib.hid (alone_u (HMK.out.below (HBM.out.trans (HB2.out.mono HRB.out)))); obtain ⟨q, hq⟩ : ∃ q, okOp m = q := ⟨_, rfl⟩
   have HQ := Lib.hid hq; rw [hq] at HAL; clear hq; cases q
   ·go_wp2_with (go_at_call 71; go_must (refine HAL.out.mono ?_; rintro e w3 ⟨rfl, hb3⟩; have HB3 := Lib.hid hb3; clear hb3))
    go_ret
    exact holds_no (fun h => by have := okM_op h; rw [HQ.out] at this; cases this) ((HB3.out.block rb (Array.getElem?_eq_some_iff.1 HN2.out).1).trans HN2.out) (HB2.out.trans (HB3.out.mono (by have := (Array.getElem?_eq_some_iff.1 HN2.out).1; omega))) (HF2.out.trans (Far.of_below HB3.out))
   ·go_upto_region 4 with (go_at_call 71; go_must (refine HAL.out.mono ?_; rintro e w3 ⟨rfl, hb3⟩; have HB3 := Lib.hid hb3; clear hb3))
    have hn3 := (HB3.out.block rb (Array.getElem?_eq_some_iff.1 HN2.out).1).trans HN2.out; have hx3 := (HB3.out.block gb (Array.getElem?_eq_some_iff.1 HX2.out).1).trans HX2.out; have hb3 : Below rb w w3 := HB2.out.trans (HB3.out.mono (by have := (Array.getElem?_eq_some_iff.1 HN2.out).1; omega)); have hf3 : Far (fun k => k = rb) w w3 := HF2.out.trans (Far.of_below HB3.out); obtain ⟨s1, s2, s3, s4⟩ := okOp_small HQ.out; have HSM := Lib.hid s4; obtain ⟨W4, hW4⟩ : ∃ W4, w3.drew = W4 := ⟨_, rfl⟩
    have hn4 : W4.heap[rb]? = some (.cells #[.int .i64 ((n : Int) - 1), .int .i64 (b : Int)] 97 (0, 0)) := by rw [← hW4]; exact hn3
    have hx4 : W4.heap[gb]? = some (.cells (mobj m A3 c3 A4 c4) 54 (0, 0)) := by rw [← hW4]; exact hx3
    have hb4 : Below rb w W4 := by rw [← hW4]; exact below_drew hb3
    have hf4 : Far (fun k => k = rb) w W4 := by rw [← hW4]; exact hf3.trans (Far.of_below (below_drew (Below.refl _ _)))
    clear b0 b1 b2 b3 b4 hnc2; obtain ⟨b0, b1, b2, b3, b4⟩ := box5 hx4; have hbc : W4.cell? ⟨rb, 1, none⟩ = some (.int .i64 (b : Int)) := blk_cell hn4 1; have hbf : W4.frozen? ⟨rb, 1, none⟩ = false := blk_frozen hn4 1; have q1 : IntKind.i64.wrap ((m.f1.size : Int) + (m.f2.size : Int)) = (m.f1.size : Int) + (m.f2.size : Int) := IntWalk.i64_in _ zk12; have q2 : IntKind.i64.wrap ((b : Int) - ((m.f1.size : Int) + (m.f2.size : Int))) = (b : Int) - ((m.f1.size : Int) + (m.f2.size : Int)) := IntWalk.i64_in _ zk12; have HN4 := Lib.hid hn4; have HX4 := Lib.hid hx4; have HB4 := Lib.hid hb4; have HF4 := Lib.hid hf4; clear hn3 hx3 hb3 hf3 hn4 hx4 hb4 hf4 HB3 HN2 HX2 HB2 HF2 HAL; refine wp_region_still_tail 14 zk3 zk3 ?_; simp only [List.take_succ_cons, List.take_zero, List.drop_succ_cons, List.drop_zero]; change wpStill _ _ w3.drew _ _ _; have HW4 := Lib.hid hW4; rw [hW4]; clear hW4; (repeat still_step); refine wpStill_nil ?_; change wpList _ _ _ _ _ w3.drew; rw [HW4.out]; go_upto_region 5 with ((with_reducible refine gate_store (t := 3) (p := 45) rfl ?_); go_must (refine store_event (t := 3) (p := 45) (v := .tmp 43) (w1 := W4.setCell ⟨rb, 1, none⟩ (.int .i64 ((b : Int) - ((m.f1.size : Int) + (m.f2.size : Int))))) ?hg ?ho ?hn ?hr ?_; (case ho => exact zk16); (case hg => exact zk16); (case hn => exact zk16); (case hr => exact zk9); intro w5 hw5; have HW5 := Lib.hid hw5; clear hw5))
    have hn5 : w5.heap[rb]? = some (.cells #[.int .i64 ((n : Int) - 1), .int .i64 ((b : Int) - ((m.f1.size : Int) + (m.f2.size : Int)) - (strsN m.f3 : Int) + (strsN (m.f3.drop 0) : Int))] 97 (0, 0)) := by rw [HW5.out, List.drop_zero, Int.sub_add_cancel]; exact blk_put HN4.out 1 _ rfl
    have hx5 : w5.heap[gb]? = some (.cells (mobj m A3 c3 A4 c4) 54 (0, 0)) := by rw [HW5.out]; exact (Below.heap_setCell _ ⟨rb, 1, none⟩ _ gb HGN.out).trans HX4.out
    have hb5 : Below rb w w5 := by rw [HW5.out]; exact HB4.out.setCell (p := ⟨rb, 1, none⟩) (Nat.le_refl _) _
    have hf5 : Far (fun k => k = rb) w w5 := by rw [HW5.out]; exact HF4.out.setCell (p := ⟨rb, 1, none⟩) rfl _
    clear b0 b1 b2 b3 b4 hbc hbf q1 q2; obtain ⟨b0, b1, b2, b3, b4⟩ := box5 hx5; have HN5 := Lib.hid hn5; have HX5 := Lib.hid hx5; have HB5 := Lib.hid hb5; have HF5 := Lib.hid hf5; clear hn5 hx5 hb5 hf5 HN4 HX4 HB4 HF4 HW5; go_wp2; go_loopw [49] (fun v49 wk => ∃ i : Nat, i ≤ m.f3.length ∧ v49 = .int .i64 (i : Int) ∧ wk.heap[rb]? = some (.cells #[.int .i64 ((n : Int) - 1), .int .i64 ((b : Int) - ((m.f1.size : Int) + (m.f2.size : Int)) - (strsN m.f3 : Int) + (strsN (m.f3.drop i) : Int))] 97 (0, 0)) ∧ wk.heap[gb]? = some (.cells (mobj m A3 c3 A4 c4) 54 (0, 0)) ∧ Below rb w wk ∧ Far (fun k => k = rb) w wk) (fun v49 _ => m.f3.length - (intOf v49).toNat)
    case atStart => exact ⟨0, Nat.zero_le _, rfl, HN5.out, HX5.out, HB5.out, HF5.out⟩
    case round =>
     obtain ⟨i, hi, rfl, hnk, hxk, hbk, hfk⟩ := hrel; clear b0 b1 b2 b3 b4; obtain ⟨b0, b1, b2, b3, b4⟩ := box5 hxk; have HNK := Lib.hid hnk; have HXK := Lib.hid hxk; have HBK := Lib.hid hbk; have HFK := Lib.hid hfk; by_cases hil : i < m.f3.length
     ·have e1 : decide ((i : Int) < (m.f3.length : Int)) = true := decide_eq_true zk12
      have e2 : decide (i < m.f3.length) = true := decide_eq_true hil; obtain ⟨ad, rfl, hs⟩ := Kd.at_string (Kd.C_below HMK.out.g3 (HBM.out.trans (hbk.mono HRB.out))) (i : Int) zk12 zk12; rw [Int.toNat_natCast] at hs; have hsd := strsN_drop m.f3 i hil; have hle : strsN (m.f3.drop i) ≤ 1024 := Nat.le_trans (strsN_drop_le _ _) HSM.out; obtain ⟨s, hse⟩ : ∃ s, rdOf ByteArray.empty m.f3 (i : Int) = s := ⟨_, rfl⟩
      rw [hse] at hs hsd; obtain ⟨X, hX⟩ : ∃ X, (b : Int) - ((m.f1.size : Int) + (m.f2.size : Int)) - (strsN m.f3 : Int) + (strsN (m.f3.drop i) : Int) = X := ⟨_, rfl⟩
      have hX2 : (b : Int) - ((m.f1.size : Int) + (m.f2.size : Int)) - (strsN m.f3 : Int) + (strsN (m.f3.drop (i + 1)) : Int) = X - (s.size : Int) := zk12
      have hXw : IntKind.i64.wrap (X - (s.size : Int)) = X - (s.size : Int) := IntWalk.i64_in _ (by have := HSM.out; omega); rw [hX] at hnk HNK; have hbc : wr.cell? ⟨rb, 1, none⟩ = some (.int .i64 X) := blk_cell hnk 1; have hbf : wr.frozen? ⟨rb, 1, none⟩ = false := blk_frozen hnk 1; have HX2 := Lib.hid hX2; clear hX hX2 hse hsd hle hnk hxk hbk hfk; (go_wp2_with ((with_reducible refine gate_store (t := 3) (p := 61) rfl ?_); go_must (refine store_event (t := 3) (p := 61) (v := .tmp 59) (w1 := wr.setCell ⟨rb, 1, none⟩ (.int .i64 (X - (s.size : Int)))) ?hg ?ho ?hn ?hr ?_; (case ho => exact zk16); (case hg => exact zk16); (case hn => exact zk16); (case hr => exact zk9); intro w6 hw6; have HW6 := Lib.hid hw6; clear hw6))); go_roundw
      case rel => exact ⟨i + 1, hil, zk30, by rw [HX2.out, HW6.out]; exact blk_put HNK.out 1 _ rfl, by rw [HW6.out]; exact (Below.heap_setCell _ ⟨rb, 1, none⟩ _ gb HGN.out).trans HXK.out, by rw [HW6.out]; exact HBK.out.setCell (p := ⟨rb, 1, none⟩) (Nat.le_refl _) _, by rw [HW6.out]; exact HFK.out.setCell (p := ⟨rb, 1, none⟩) rfl _⟩
      case measure => simp [intOf]; omega
     ·have e1 : decide ((i : Int) < (m.f3.length : Int)) = false := decide_eq_false zk12
      have e2 : decide (i < m.f3.length) = false := decide_eq_false hil; obtain ⟨X, hX⟩ : ∃ X, (b : Int) - ((m.f1.size : Int) + (m.f2.size : Int)) - (strsN m.f3 : Int) = X := ⟨_, rfl⟩
      rw [List.drop_eq_nil_of_le zk12, show strsN [] = 0 from rfl, Int.natCast_zero, Int.add_zero, hX] at hnk HNK; have hbc : wr.cell? ⟨rb, 1, none⟩ = some (.int .i64 X) := blk_cell hnk 1; clear hnk hxk hbk hfk; by_cases hneg : X < 0
      ·have e3 : X < 0 ↔ True := ⟨fun _ => trivial, fun _ => hneg⟩
       have HNO := Lib.hid (holds_no (d := d + 1) (n := n) (b := b) (m := m) (fun h => by have := (okM_room h).2; omega) HNK.out HBK.out HFK.out); clear hX hneg; go_wp2; go_ret
       exact HNO.out
      ·have e3 : X < 0 ↔ False := ⟨hneg, fun h => h.elim⟩
       have hXb : X = ((b - (m.f1.size + m.f2.size + strsN m.f3) : Nat) : Int) := zk12
       have hNn : (n : Int) - 1 = ((n - 1 : Nat) : Int) := by have := HN0.out; omega
       have HIFF := Lib.hid ((okM_succ d n b m (by have := HN0.out; omega) zk12).trans (and_iff_right HQ.out)); have HTOT := Lib.hid (show m.f1.size + m.f2.size + strsN m.f3 ≤ b by omega); have HNK2 := Lib.hid HNK.out; rw [hXb, hNn] at HNK2; clear hX hneg hXb hNn; go_wp2; go_loopw [71] (fun v71 wk => ∃ (j n' b' : Nat), j ≤ m.f4.length ∧ v71 = .int .i64 (j : Int) ∧ n' ≤ 64 ∧ b' ≤ 4096 ∧ KidsRel d n b m n' b' j ∧ wk.heap[rb]? = some (.cells #[.int .i64 (n' : Int), .int .i64 (b' : Int)] 97 (0, 0)) ∧ wk.heap[gb]? = some (.cells (mobj m A3 c3 A4 c4) 54 (0, 0)) ∧ Below rb w wk ∧ Far (fun k => k = rb) w wk) (fun v71 _ => m.f4.length - (intOf v71).toNat)
       case atStart => exact ⟨0, n - 1, b - (m.f1.size + m.f2.size + strsN m.f3), Nat.zero_le _, rfl, zk12, zk12, kids_start HIFF.out HN0.out HTOT.out, HNK2.out, HXK.out, HBK.out, HFK.out⟩
       case round =>
        obtain ⟨j, n', b', hj, rfl, hn', hb', hrl, hnk, hxk, hbk, hfk⟩ := hrel; clear b0 b1 b2 b3 b4 hbc; obtain ⟨b0, b1, b2, b3, b4⟩ := box5 hxk; have HRL := Lib.hid hrl; have HNK := Lib.hid hnk; have HXK := Lib.hid hxk; have HBK := Lib.hid hbk; have HFK := Lib.hid hfk; by_cases hjl : j < m.f4.length
        ·have e4 : decide ((j : Int) < (m.f4.length : Int)) = true := decide_eq_true zk12
         have e5 : decide (j < m.f4.length) = true := decide_eq_true hjl; obtain ⟨ad, K3, q3, K4, q4, rfl, hkm, k0, k1, k2, k3, k4⟩ := kid_at HMK.out.g4 j hjl; have hbm : Below wm.heap.size wm wr := HBM.out.trans (hbk.mono HRB.out); replace k0 := (hbm.cell (World.block_lt_of_cell? wm _ k0)).trans k0; replace k1 := (hbm.cell (World.block_lt_of_cell? wm _ k1)).trans k1; replace k2 := (hbm.cell (World.block_lt_of_cell? wm _ k2)).trans k2; replace k3 := (hbm.cell (World.block_lt_of_cell? wm _ k3)).trans k3; replace k4 := (hbm.cell (World.block_lt_of_cell? wm _ k4)).trans k4; have hkw := HWM.out.k _ (kid_mem hjl); obtain ⟨y, hy⟩ : ∃ y, rd_T54 m.f4 (j : Int) = y := ⟨_, rfl⟩
         rw [hy] at hkm k0 k1 k2 k3 k4 hkw; have HY := Lib.hid hy; have HKM := Lib.hid hkm; have HKW := Lib.hid hkw; have HBW := Lib.hid hbm; have hrw := (Array.getElem?_eq_some_iff.1 hnk).1; have hgw := (Array.getElem?_eq_some_iff.1 hxk).1; have HRW := Lib.hid hrw; have HGW := Lib.hid hgw; clear hkm hkw hbm hy hnk hxk hbk hfk hrl hrw hgw
         go_wp2_with (first
          | ((with_reducible refine gate_dst (N := 10) rfl ?_); go_must (refine box_event ?hg (N := 10) ?hd (cs := #[.int .i64 0, .string ByteArray.empty, .string ByteArray.empty, .slice none 0 0, .slice none 0 0]) (t := 54) ?hr ?_; (case hd => exact zk16); (case hg => exact zk16); (case hr => exact zk9); intro kb hk w6 hbox hb6; obtain ⟨z0, z1, z2, z3, z4, y0, y1, y2, y3, y4⟩ := zero5 hbox; have HBOX := Lib.hid hbox; have HB6 := Lib.hid hb6; have HK := Lib.hid hk; clear hbox hb6 hk))
          | ((with_reducible refine gate_store (t := 54) (p := 10) rfl ?_); refine store_event (t := 54) (p := 10) (v := .tmp 74) (w1 := put5 w6 kb y K3 q3 K4 q4) ?hg ?ho ?hn ?hr ?_; (case ho => exact zk16); (case hg => exact zk16); (case hn => exact zk16); (case hr => exact zk89); intro w7 hw7; have hb7 : Below wr.heap.size wr w7 := (by rw [hw7]; exact put5_below HB6.out (by rw [HK.out]; exact Nat.le_refl _)); have hk7 := put5_at (K3 := K3) (q3 := q3) (K4 := K4) (q4 := q4) (y := y) HBOX.out; rw [← hw7] at hk7; clear z0 z1 z2 z3 z4 y0 y1 y2 y3 y4 b0 b1 b2 b3 b4; obtain ⟨b0, b1, b2, b3, b4⟩ := box5 hk7; have hn7 := (hb7.block rb HRW.out).trans HNK.out; have hx7 := (hb7.block gb HGW.out).trans HXK.out; have HCALL := Lib.hid (HIH.out () HKM.out HKW.out (HBW.out.trans (hb7.mono HBW.out.size)) HRB.out hn' hb' hn7); have HB7 := Lib.hid (HBK.out.trans (hb7.mono (Nat.le_of_lt HRW.out))); have HF7 := Lib.hid (HFK.out.trans (Far.of_below hb7)); have HX7 := Lib.hid hx7; clear hw7 hb7 hk7 hn7 hx7)
          | (go_at_call 60; go_must (refine HCALL.out.mono ?_; rintro e w8 ⟨r, x8, y8, rfl, hr8, hv8, hn8, hb8, hf8⟩; have HR8 := Lib.hid hr8; have HV8 := Lib.hid hv8; have HN8 := Lib.hid hn8; have HX8 := Lib.hid ((hf8.block gb (Array.getElem?_eq_some_iff.1 HX7.out).1 HGN.out).trans HX7.out); have HB8 := Lib.hid (HB7.out.trans hb8); have HF8 := Lib.hid (HF7.out.trans hf8); clear hr8 hv8 hn8 hb8 hf8)))
         all_goals first | (go_ret; exact holds_no (kids_bad HRL.out hjl (by rw [HY.out]; intro c; have := HR8.out.2 c; simp_all)) HN8.out HB8.out HF8.out) | skip
         have hrt : r = true := by simpa using (by assumption : (!r) = false)
         go_roundw
         case rel => exact ⟨j + 1, n' - nodesD d y, b' - bytesD d y, hjl, zk30, zk12, zk12, by have := kids_step HRL.out hjl (by rw [HY.out]; exact HR8.out.1 hrt); rw [HY.out] at this; exact this, by rw [← (HV8.out hrt).1, ← (HV8.out hrt).2]; exact HN8.out, HX8.out, HB8.out, HF8.out⟩
         case measure => simp [intOf]; omega
        ·have e4 : decide ((j : Int) < (m.f4.length : Int)) = false := decide_eq_false zk12
         have e5 : decide (j < m.f4.length) = false := decide_eq_false hjl; obtain ⟨c1, c2, c3⟩ := kids_end hrl zk12; have HC1 := Lib.hid c1; have HC2 := Lib.hid c2; have HC3 := Lib.hid c3; clear hrl hnk hxk hbk hfk c1 c2 c3; go_wp2; go_ret
         exact ⟨true, (n' : Int), (b' : Int), rfl, iff_of_true rfl HC1.out, fun _ => ⟨by rw [HC2.out], by rw [HC3.out]⟩, HNK.out, HBK.out, HFK.out⟩
end Go.Proofs.Ytlkhdbfhnpbbhaa
namespace Go.Proofs.Ytlkhdbfhnpbbhaa
open Go.RowKit Go.Proofs.YtlkhdbfhnpbbhaaW.PrintWords Go.Proofs.YtlkhdbfhnpbbhaaW.PrintLast Go.Proofs.YtlkhdbfhnpbbhaaW.PrintMore Go.Proofs.Ytlkhdbfhnpbbhaa.Ix Go.Proofs.Ytlkhdbfhnpbbhaa.Tx Go.Proofs.Ytlkhdbfhnpbbhaa.Mx Go.Proofs.Ytlkhdbfhnpbbhaa.Pure
def preB (v p : ByteArray) : Bool := decide (p.size ≤ v.size) && ((v.extract 0 p.size).toList == p.toList)
def anyE (v : ByteArray) : List ByteArray → Bool
 | [] => false
 | s :: r => if s.toList = v.toList then true else anyE v r
def kidsE (f : MT → Bool) (o : Bool) : List MT → Bool
 | [] => !o
 | k :: r => if (f k == o) = true then o else kidsE f o r
def evalD : Nat → MT → List LB → Bool
 | 0, _, _ => false
 | d + 1, m, l =>
  if m.f0 = 0 then true
  else if m.f0 = 1 then (lbVal l m.f1).toList == m.f2.toList
  else if m.f0 = 2 then (lbVal l m.f1).toList != m.f2.toList
  else if m.f0 = 3 then preB (lbVal l m.f1) m.f2
  else if m.f0 = 4 then anyE (lbVal l m.f1) m.f3
  else if m.f0 = 7 then !(evalD d (rd_T54 m.f4 0) l)
  else kidsE (fun k => evalD d k l) (m.f0 == 6) m.f4
theorem nodes_pos {d : Nat} {m : MT} (h : okD d m = true) : 1 ≤ nodesD d m := by
 cases d with
 | zero => cases h
 | succ d => simp only [nodesD]; omega
theorem okL_len {d n b : Nat} {l : List MT} (h : okL d n b l) : l.length ≤ n := by
 obtain ⟨h1, h2, -⟩ := h; refine Nat.le_trans ?_ h2; clear h2
 induction l with
 | nil => exact Nat.zero_le _
 | cons k l ih =>
  rw [sumN_cons, List.length_cons]; have := nodes_pos (h1 k List.mem_cons_self); have := ih (fun x hx => h1 x (List.mem_cons_of_mem _ hx)); omega
theorem okM_kids {d n b : Nat} {m : MT} (h : okM (d + 1) n b m) : okL d (n - 1) (b - (m.f1.size + m.f2.size + strsN m.f3)) m.f4 := ((okM_succ d n b m (okM_room h).1 (okM_room h).2).1 h).2
theorem okL_get {d n b : Nat} {l : List MT} (h : okL d n b l) {j : Nat} (hj : j < l.length) : okM d n b (rd_T54 l (j : Int)) := by
 obtain ⟨h1, h2, h3⟩ := h; have hm := kid_mem (xs := l) hj; refine ⟨h1 _ hm, ?_, ?_⟩
 ·refine Nat.le_trans ?_ h2; exact sum_mem (nodesD d) hm
 ·refine Nat.le_trans ?_ h3; exact sum_mem (bytesD d) hm
where
  sum_mem (f : MT → Nat) {k : MT} {l : List MT} (h : k ∈ l) : f k ≤ sumN f l := by
    induction l with
    | nil => cases h
    | cons x l ih =>
      rw [sumN_cons]
      rcases List.mem_cons.1 h with e | e
      · rw [e]; omega
      · have := ih e; omega
theorem any_l0 (v : ByteArray) (l : List ByteArray) (hl : l.length ≤ 16) : ∀ (d i k : Nat), i + d = l.length → d < k → match_eval.l0 k v l (l.length : Int) (i : Int) = some (anyE v (l.drop i))
 | 0, i, k, h, hk => by
  obtain ⟨k, rfl⟩ : ∃ n, k = n + 1 := ⟨k - 1, zk12⟩
  rw [match_eval.l0, if_neg zk12, List.drop_eq_nil_of_le zk12]; rfl
 | d + 1, i, k, h, hk => by
  obtain ⟨k, rfl⟩ : ∃ n, k = n + 1 := ⟨k - 1, zk12⟩
  have ih := any_l0 v l hl d (i + 1) k zk12 zk12; rw [Int.natCast_add, Int.natCast_one] at ih; rw [match_eval.l0, if_pos zk12, if_pos zk12, if_pos zk12, w64 (i := (i : Int) + 1) zk12 zk12, ih, List.drop_eq_getElem_cons (by omega : i < l.length), show rdOf ByteArray.empty l (i : Int) = l[i] by simp [rdOf, (by omega : i < l.length)], anyE]; split <;> rfl
theorem ranyl0 (v : ByteArray) (o : Int) (a b : ByteArray) (l : List ByteArray) (c : List MT) (hl : l.length ≤ 16) : ∀ (d i k : Nat), i + d = l.length → d < k → varveref12_Eval.l0 k v (i : Int) o a b l c = some (anyE v (l.drop i))
 | 0, i, k, h, hk => by
  obtain ⟨k, rfl⟩ : ∃ n, k = n + 1 := ⟨k - 1, zk12⟩
  rw [varveref12_Eval.l0, if_neg zk12, List.drop_eq_nil_of_le zk12]; rfl
 | d + 1, i, k, h, hk => by
  obtain ⟨k, rfl⟩ : ∃ n, k = n + 1 := ⟨k - 1, zk12⟩
  have ih := ranyl0 v o a b l c hl d (i + 1) k zk12 zk12; rw [Int.natCast_add, Int.natCast_one] at ih; rw [varveref12_Eval.l0, if_pos zk12, if_pos zk12, w64 (i := (i : Int) + 1) zk12 zk12, ih, List.drop_eq_getElem_cons (by omega : i < l.length), show rdOf ByteArray.empty l (i : Int) = l[i] by simp [rdOf, (by omega : i < l.length)], anyE]; split <;> rfl
theorem kids_l1 (l : List LB) (o : Bool) (c : List MT) (E : MT → Bool) (F : Nat) (hc : c.length ≤ 64) (hE : ∀ j : Nat, j < c.length → ∀ k, F ≤ k → match_eval.f k (rd_T54 c (j : Int)).f0 (rd_T54 c (j : Int)).f1 (rd_T54 c (j : Int)).f2 (rd_T54 c (j : Int)).f3 (rd_T54 c (j : Int)).f4 l = some (E (rd_T54 c (j : Int)))) : ∀ (d i k : Nat), i + d = c.length → d + F < k → match_eval.l1 k l o c (c.length : Int) (i : Int) = some (kidsE E o (c.drop i))
 | 0, i, k, h, hk => by
  obtain ⟨k, rfl⟩ : ∃ n, k = n + 1 := ⟨k - 1, zk12⟩
  rw [match_eval.l1, if_neg zk12, List.drop_eq_nil_of_le zk12]; rfl
 | d + 1, i, k, h, hk => by
  obtain ⟨k, rfl⟩ : ∃ n, k = n + 1 := ⟨k - 1, zk12⟩
  have ih := kids_l1 l o c E F hc hE d (i + 1) k zk12 zk12; rw [Int.natCast_add, Int.natCast_one] at ih; rw [match_eval.l1, if_pos zk12, if_pos zk12, if_pos zk12, w64 (i := (i : Int) + 1) zk12 zk12, ih, hE i zk12 k zk12, kids_drop c i zk12, kidsE, Option.bind_some]; split <;> rfl
theorem rkids_l1 (l : List LB) (o : Int) (a b : ByteArray) (s : List ByteArray) (c : List MT) (ho : o = 5 ∨ o = 6) (E : MT → Bool) (F : Nat) (hc : c.length ≤ 64) (hE : ∀ j : Nat, j < c.length → ∀ k, F ≤ k → varveref12_Eval.f k (rd_T54 c (j : Int)).f0 (rd_T54 c (j : Int)).f1 (rd_T54 c (j : Int)).f2 (rd_T54 c (j : Int)).f3 (rd_T54 c (j : Int)).f4 l = some (E (rd_T54 c (j : Int)))) : ∀ (d i k : Nat), i + d = c.length → d + F < k → varveref12_Eval.l1 k l (i : Int) o a b s c = some (kidsE E (o == 6) (c.drop i))
 | 0, i, k, h, hk => by
  obtain ⟨k, rfl⟩ : ∃ n, k = n + 1 := ⟨k - 1, zk12⟩
  rw [varveref12_Eval.l1, if_neg zk12, List.drop_eq_nil_of_le zk12]
  rcases ho with rfl | rfl <;> rfl
 | d + 1, i, k, h, hk => by
  obtain ⟨k, rfl⟩ : ∃ n, k = n + 1 := ⟨k - 1, zk12⟩
  have ih := rkids_l1 l o a b s c ho E F hc hE d (i + 1) k zk12 zk12; rw [Int.natCast_add, Int.natCast_one] at ih; rw [varveref12_Eval.l1, if_pos zk12, if_pos zk12, w64 (i := (i : Int) + 1) zk12 zk12, ih, hE i zk12 k zk12, kids_drop c i zk12, kidsE, Option.bind_some]; split <;> rfl
theorem pre_eq (v p : ByteArray) : strings_HasPrefix.f v p = some (preB v p) := by
 unfold strings_HasPrefix.f stringslite_HasPrefix.f preB; by_cases h : p.size ≤ v.size
 ·rw [if_pos zk12, if_pos zk12, if_pos zk12, decide_eq_true h, Bool.true_and]; rfl
 ·rw [if_neg zk12, decide_eq_false h]; rfl
theorem okOp_or {m : MT} (h : okOp m = true) (h0 : ¬ m.f0 = 0) (h1 : ¬ m.f0 = 1) (h2 : ¬ m.f0 = 2) (h3 : ¬ m.f0 = 3) (h4 : ¬ m.f0 = 4) : m.f0 = 5 ∨ m.f0 = 6 ∨ m.f0 = 7 ∧ m.f4.length = 1 := by
 unfold okOp at h; rw [if_neg h0, if_neg zk12, if_neg h4] at h; by_cases h5 : m.f0 = 5 ∨ m.f0 = 6
 ·rcases h5 with h | h <;> simp [h]
 ·rw [if_neg h5] at h
  by_cases h7 : m.f0 = 7
  ·rw [if_pos h7] at h; simp only [Bool.and_eq_true, decide_eq_true_eq] at h; exact Or.inr (Or.inr ⟨h7, h.2⟩)
  ·rw [if_neg h7] at h; cases h
theorem eval_eq (l : List LB) (hl : l.length ≤ 140737488351232) : ∀ (d n b : Nat) (m : MT), okM d n b m → n ≤ 64 → ∀ k, l.length + 20 + d * 80 ≤ k → match_eval.f k m.f0 m.f1 m.f2 m.f3 m.f4 l = some (evalD d m l)
 | 0, n, b, m, h, hn, k, hk => by have := h.1; cases this
 | d + 1, n, b, m, h, hn, k, hk => by
  obtain ⟨k, rfl⟩ : ∃ n, k = n + 1 := ⟨k - 1, zk12⟩
  have hs := okOp_small (okM_op h); have hkids := okM_kids h; have hlen := okL_len hkids; rw [match_eval.f, value_eq l m.f1 hl k zk12, Option.bind_some, evalD]; by_cases h0 : m.f0 = 0
  ·rw [if_pos h0, if_pos h0]
  ·rw [if_neg h0, if_neg h0]
   by_cases h1 : m.f0 = 1
   ·rw [if_pos h1, if_pos h1]
   ·rw [if_neg h1, if_neg h1]
    by_cases h2 : m.f0 = 2
    ·rw [if_pos h2, if_pos h2]
    ·rw [if_neg h2, if_neg h2]
     by_cases h3 : m.f0 = 3
     ·rw [if_pos h3, if_pos h3, pre_eq]; rfl
     ·rw [if_neg h3, if_neg h3]
      by_cases h4 : m.f0 = 4
      ·rw [if_pos h4, if_pos h4]; exact any_l0 _ _ hs.2.2.1 m.f3.length 0 k zk12 zk12
      ·rw [if_neg h4, if_neg h4]
       rcases okOp_or (okM_op h) h0 h1 h2 h3 h4 with h7 | h7 | ⟨h7, hk1⟩
       ·exact zk104
       ·exact zk104
       ·rw [if_pos h7, if_pos h7, if_pos zk12]; have he := eval_eq l hl d _ _ _ (okL_get hkids (j := 0) zk12) zk12 k zk12; rw [Int.natCast_zero] at he; rw [he]; rfl
theorem reval_eq (l : List LB) (hl : l.length ≤ 140737488351232) : ∀ (d n b : Nat) (m : MT), okM d n b m → n ≤ 64 → ∀ k, l.length + 20 + d * 80 ≤ k → varveref12_Eval.f k m.f0 m.f1 m.f2 m.f3 m.f4 l = some (evalD d m l)
 | 0, n, b, m, h, hn, k, hk => by have := h.1; cases this
 | d + 1, n, b, m, h, hn, k, hk => by
  obtain ⟨k, rfl⟩ : ∃ n, k = n + 2 := ⟨k - 2, zk12⟩
  have hs := okOp_small (okM_op h); have hkids := okM_kids h; have hlen := okL_len hkids; rw [varveref12_Eval.f, rvalue_eq l m.f1 hl (k + 1) zk12, Option.bind_some, evalD]; by_cases h0 : m.f0 = 0
  ·rw [if_pos h0, if_pos h0]
  ·rw [if_neg h0, if_neg h0]
   by_cases h1 : m.f0 = 1
   ·rw [if_pos h1, if_pos h1]
   ·rw [if_neg h1, if_neg h1]
    by_cases h2 : m.f0 = 2
    ·rw [if_pos h2, if_pos h2]
    ·rw [if_neg h2, if_neg h2]
     by_cases h3 : m.f0 = 3
     ·rw [if_pos h3, if_pos h3]
      unfold preB; by_cases h : m.f2.size ≤ (lbVal l m.f1).size
      ·rw [if_pos zk12, if_pos zk12, if_pos zk12, decide_eq_true h, Bool.true_and]; rfl
      ·rw [if_neg zk12, decide_eq_false h]; rfl
     ·rw [if_neg h3, if_neg h3]
      by_cases h4 : m.f0 = 4
      ·rw [if_pos h4, if_pos h4]; exact ranyl0 _ _ _ _ _ _ hs.2.2.1 m.f3.length 0 (k + 1) zk12 zk12
      ·rw [if_neg h4, if_neg h4]
       have hE : ∀ j : Nat, j < m.f4.length → ∀ k, l.length + 20 + d * 80 ≤ k → varveref12_Eval.f k (rd_T54 m.f4 (j : Int)).f0 (rd_T54 m.f4 (j : Int)).f1 (rd_T54 m.f4 (j : Int)).f2 (rd_T54 m.f4 (j : Int)).f3 (rd_T54 m.f4 (j : Int)).f4 l = some (evalD d (rd_T54 m.f4 (j : Int)) l) := fun j hj k hk => reval_eq l hl d _ _ _ (okL_get hkids hj) zk12 k hk
       rcases okOp_or (okM_op h) h0 h1 h2 h3 h4 with h7 | h7 | ⟨h7, hk1⟩
       ·rw [if_pos h7, if_neg zk12, varveref12_Eval.j1, if_pos (by rw [h7]; rfl)]; exact rkids_l1 l _ _ _ _ m.f4 zk12 (fun k => evalD d k l) (l.length + 20 + d * 80) zk12 hE m.f4.length 0 k zk12 zk12
       ·rw [if_neg zk12, if_neg zk12, varveref12_Eval.j1, if_pos (by rw [h7]; rfl)]; exact rkids_l1 l _ _ _ _ m.f4 zk12 (fun k => evalD d k l) (l.length + 20 + d * 80) zk12 hE m.f4.length 0 k zk12 zk12
       ·rw [if_neg zk12, if_pos h7, varveref12_Eval.j1, if_neg (by rw [h7]; decide), if_pos h7, if_pos zk12]; have he := hE 0 zk12 k zk12; rw [Int.natCast_zero] at he; rw [he]; rfl
end Go.Proofs.Ytlkhdbfhnpbbhaa
namespace Go.Proofs.Ytlkhdbfhnpbbhaa
open Go.RowKit Go.Proofs.YtlkhdbfhnpbbhaaW.PrintWords Go.Proofs.YtlkhdbfhnpbbhaaW.PrintLast Go.Proofs.YtlkhdbfhnpbbhaaW.PrintMore Go.Proofs.Ytlkhdbfhnpbbhaa.Ix Go.Proofs.Ytlkhdbfhnpbbhaa.Tx Go.Proofs.Ytlkhdbfhnpbbhaa.Mx Go.Proofs.Ytlkhdbfhnpbbhaa.Pure
def cpy : Nat → MT → MT
 | 0, m => ⟨m.f0, m.f1, m.f2, m.f3, []⟩
 | d + 1, m => ⟨m.f0, m.f1, m.f2, m.f3, m.f4.map (cpy d)⟩
theorem infoM : (Try.prog.info? 54).map (fun i => (i.zero, i.size, i.bytes)) = some (some (.agg #[.int .i64 0, .string ⟨#[]⟩, .string ⟨#[]⟩, .slice none 0 0, .slice none 0 0]), 5, 88) := by kernel_rfl
theorem infoS9 : (Try.prog.info? 9).map (fun i => (i.zero, i.size, i.bytes)) = some (some (.string ⟨#[]⟩), 1, 16) := by kernel_rfl
theorem take_map (f : MT → MT) (l : List MT) (i : Nat) (hi : i < l.length) : (l.take (i + 1)).map f = (l.take i).map f ++ [f (rd_T54 l (i : Int))] := by
 rw [List.take_succ_eq_append_getElem hi, List.map_append, show rd_T54 l (i : Int) = l[i] by simp [rd_T54, hi]]; rfl
abbrev zobj : Array Value := #[.int .i64 0, .string ByteArray.empty, .string ByteArray.empty, .slice none 0 0, .slice none 0 0]
abbrev vobj (m : MT) (v3 v4 : Value) : Array Value := #[.int .i64 m.f0, .string m.f1, .string m.f2, v3, v4]
theorem vbox {w : World} {g : Nat} {m : MT} {v3 v4 : Value} (h : w.heap[g]? = some (.cells (vobj m v3 v4) 54 (0, 0))) :
  (w.cell? ⟨g, 0, none⟩ = some (.int .i64 m.f0) ∧ w.cell? ⟨g, 1, none⟩ = some (.string m.f1) ∧ w.cell? ⟨g, 2, none⟩ = some (.string m.f2) ∧ w.cell? ⟨g, 3, none⟩ = some v3 ∧ w.cell? ⟨g, 4, none⟩ = some v4) ∧ w.frozen? ⟨g, 3, none⟩ = false ∧ w.frozen? ⟨g, 4, none⟩ = false :=
 ⟨⟨blk_cell h 0, blk_cell h 1, blk_cell h 2, blk_cell h 3, blk_cell h 4⟩, blk_frozen h 3, blk_frozen h 4⟩
def CopyPost (d : Nat) (m : MT) (w : World) (e : Ending) (w' : World) : Prop := ∃ v3 v4, e = .returned (.agg (vobj m v3 v4)) ∧ k54.M w' w.heap.size (fun k => w.heap.size ≤ k) (cpy d m) [.int .i64 m.f0, .string m.f1, .string m.f2, v3, v4] ∧ Below w.heap.size w w'
theorem put5_far {f : Nat → Prop} {w0 w : World} {kb : Nat} {y : MT} {K3 : Option Addr} {q3 : Nat} {K4 : Option Addr} {q4 : Nat} (h : Far f w0 w) (hk : f kb) : Far f w0 (put5 w kb y K3 q3 K4 q4) :=
 ((((h.setCell (p := ⟨kb, 0, none⟩) hk _).setCell (p := ⟨kb, 1, none⟩) hk _).setCell (p := ⟨kb, 2, none⟩) hk _).setCell (p := ⟨kb, 3, none⟩) hk _).setCell (p := ⟨kb, 4, none⟩) hk _
set_option maxRecDepth 100000 in
set_option maxHeartbeats 16000000 in
theorem copy_u : ∀ (d : Nat), d ≤ 12 → ∀ {wm w : World} {m : MT} {A3 A4 : Option Addr} {c3 c4 : Nat} (_ : MK wm m A3 c3 A4 c4) (_ : WM m) (_ : Below wm.heap.size wm w),
  Calls Try.prog 47 #[mval m A3 c3 A4 c4, .int .i64 (12 - (d : Int))] w (CopyPost d m w) := by
 intro d
 induction d with
 | zero =>
  intro hd wm w m A3 A4 c3 c4 hmk hwm hb; have HMK := Lib.hid hmk; have HWM := Lib.hid hwm; have HBM := Lib.hid hb; have hk1 := hwm.c; have hk2 := hwm.l; clear hmk hwm hb; go_enter Try.func47, Try.ntmps47
  go_upto_region 2 with (first
   | ((with_reducible refine gate_dst (N := 2) rfl ?_); go_must (refine box_event ?hg (N := 2) ?hd (cs := vobj m (.slice A3 m.f3.length c3) (.slice A4 m.f4.length c4)) (t := 54) ?hr ?_; (case hd => exact zk16); (case hg => exact zk16); (case hr => exact zk9); intro gb hg w1 hbox hb1; have HBOX1 := Lib.hid hbox; have HB1 := Lib.hid hb1; have HG := Lib.hid hg; clear hbox hb1 hg))
   | ((with_reducible refine gate_dst (N := 4) rfl ?_); go_must (refine box_event ?hg (N := 4) ?hd (cs := zobj) (t := 54) ?hr ?_; (case hd => exact zk16); (case hg => exact zk16); (case hr => exact zk9); intro rb hg w2 hres hb2; have hx2 := (hb2.block gb (Array.getElem?_eq_some_iff.1 HBOX1.out).1).trans HBOX1.out; obtain ⟨⟨b0, b1, b2, b3, b4⟩, y3, y4⟩ := vbox hx2; have HRB := Lib.hid hg; have HGR := Lib.hid (show gb < rb by rw [hg]; exact (Array.getElem?_eq_some_iff.1 HBOX1.out).1); have HRES := Lib.hid hres; have HX2 := Lib.hid hx2; have HB2 := Lib.hid (HB1.out.trans (hb2.mono HB1.out.size)); have HW := Lib.hid HB1.out.size; clear hres hb2 hx2 hg HBOX1))
   | ((with_reducible refine gate_dst (N := 9) rfl ?_); go_must (refine Kd.R_append_rows Kd.string (w0 := w2) w2.heap.size rfl (.const (.slice none 0 0)) (.tmp 8) 51 9 (.string ⟨#[]⟩) 16 rfl Try.underlying51 infoS9 rfl zk40 zk40 (.slice none 0 0) ([] : List ByteArray) m.f3 A3 m.f3.length c3 (fun k => w2.heap.size ≤ k) (fun _ => False) rfl rfl (Kd.R_nil _ _ _ _ _) (Kd.C_below HMK.out.g3 (HBM.out.trans (HB2.out.mono HBM.out.size))) (fun _ _ h => h) (fun _ h => h.elim) (fun _ h => h) (Below.refl _ _) (Nat.le_refl _) (by simp only [List.length_nil]; omega) ?_; intro v3 w3 hr3 hb3 _ _; rw [List.nil_append] at hr3; obtain ⟨B3, e3, rfl⟩ := Kd.R_slice hr3; have hx3 := (hb3.block gb (Array.getElem?_eq_some_iff.1 HX2.out).1).trans HX2.out; clear b0 b1 b2 b3 b4 y3 y4; obtain ⟨⟨b0, b1, b2, b3, b4⟩, y3, y4⟩ := vbox hx3; have HR3 := Lib.hid hr3; have HX3 := Lib.hid hx3; have HB3 := Lib.hid hb3; clear hr3 hb3 hx3))
   | ((with_reducible refine gate_store (t := 51) (p := 10) rfl ?_); go_must (refine store_event (t := 51) (p := 10) (v := .tmp 9) (w1 := w3.setCell ⟨gb, 3, none⟩ (.slice B3 m.f3.length e3)) ?hg ?ho ?hn ?hr ?_; (case ho => exact zk16); (case hg => exact zk16); (case hn => exact zk16); (case hr => exact zk9); intro w4 hw4; have HW4 := Lib.hid hw4; clear hw4)))
  have hgb : gb < w2.heap.size := (Array.getElem?_eq_some_iff.1 HX2.out).1; have hrb : rb < w2.heap.size := (Array.getElem?_eq_some_iff.1 HRES.out).1; have hgr : gb ≠ rb := fun c => by have := HGR.out; omega
  have hx4 : w4.heap[gb]? = some (.cells (vobj m (.slice B3 m.f3.length e3) (.slice A4 m.f4.length c4)) 54 (0, 0)) := by rw [HW4.out]; exact blk_put HX3.out 3 _ rfl
  have hres4 : w4.heap[rb]? = some (.cells zobj 54 (0, 0)) := zk54
  have hb4 : Below w.heap.size w w4 := zk53
  have hr4 : Kd.R Kd.string 9 w4 w2.heap.size (fun k => w2.heap.size ≤ k) (.slice B3 m.f3.length e3) m.f3 := zk48
  clear b0 b1 b2 b3 b4 y3 y4; obtain ⟨⟨b0, b1, b2, b3, b4⟩, y3, y4⟩ := vbox hx4; have HX4 := Lib.hid hx4; have W24 := Lib.hid (show w2.heap.size ≤ w4.heap.size by rw [HW4.out]; simp only [World.setCell]; simpa using HB3.out.size); have HRES4 := Lib.hid hres4; have HB4 := Lib.hid hb4; have HR4 := Lib.hid hr4; have HGB := Lib.hid hgb; have HRBL := Lib.hid hrb; have HNE := Lib.hid hgr; clear hx4 hres4 hb4 hr4 hgb hrb hgr HX2 HX3 HR3 HRES HW4; go_wp2; go_loopw [5, 6] (fun v5 v6 wk => v6 = .int .i64 0 ∧ Kd.R k54 54 wk w4.heap.size (fun k => w4.heap.size ≤ k) v5 (cpy 0 m).f4 ∧ Below w4.heap.size w4 wk) (fun _ _ _ => 0)
  case atStart => exact ⟨rfl, Kd.R_nil _ _ _ _ _, Below.refl _ _⟩
  case round =>
   obtain ⟨rfl, hrk, hbk⟩ := hrel; have hxr := (hbk.block gb (Array.getElem?_eq_some_iff.1 HX4.out).1).trans HX4.out; clear b0 b1 b2 b3 b4 y3 y4; obtain ⟨⟨b0, b1, b2, b3, b4⟩, y3, y4⟩ := vbox hxr
   have HCASE := Lib.hid (show ((0 : Int) < (m.f4.length : Int) ↔ True) ∧ (0 < m.f4.length ↔ True) ∨ ((0 : Int) < (m.f4.length : Int) ↔ False) ∧ (0 < m.f4.length ↔ False) from by
    by_cases h : 0 < m.f4.length
    ·exact Or.inl ⟨⟨fun _ => trivial, fun _ => by omega⟩, ⟨fun _ => trivial, fun _ => h⟩⟩
    ·exact Or.inr ⟨⟨fun c => by omega, fun c => c.elim⟩, ⟨h, fun c => c.elim⟩⟩)
   rcases HCASE.out with ⟨e1, e2⟩ | ⟨e1, e2⟩
   all_goals
    have hb5 : Below w.heap.size w wr := HB4.out.trans (hbk.mono HB4.out.size); have hx5 := (hbk.block gb (Array.getElem?_eq_some_iff.1 HX4.out).1).trans HX4.out; have hres5 := (hbk.block rb (Array.getElem?_eq_some_iff.1 HRES4.out).1).trans HRES4.out; have hr3 := Kd.R_below HR4.out hbk; obtain ⟨B4, e4, rfl⟩ := Kd.R_slice hrk; rw [show (cpy 0 m).f4.length = (cpy 0 m).f4.length from rfl] at hrk ⊢; have HRK := Lib.hid hrk; have HR3 := Lib.hid hr3; have HX5 := Lib.hid hx5; have HRES5 := Lib.hid hres5; have HB5 := Lib.hid hb5; have HSZ := Lib.hid hbk.size; clear hrk hr3 hx5 hres5 hb5 hbk
    go_wp2_with (first
     | ((with_reducible refine gate_store (t := 52) (p := 34) rfl ?_); go_must (refine store_event (t := 52) (p := 34) (v := .tmp 33) (w1 := wr.setCell ⟨gb, 4, none⟩ (.slice B4 (cpy 0 m).f4.length e4)) ?hg ?ho ?hn ?hr ?_; (case ho => exact zk16); (case hg => exact zk16); (case hn => exact zk16); (case hr => exact zk9); intro w6 hw6; have hx6 : w6.heap[gb]? = some (.cells (vobj m (.slice B3 m.f3.length e3) (.slice B4 (cpy 0 m).f4.length e4)) 54 (0, 0)) := (by rw [hw6]; exact blk_put HX5.out 4 _ rfl); have hres6 : w6.heap[rb]? = some (.cells zobj 54 (0, 0)) := zk69; clear b0 b1 b2 b3 b4 y3 y4; obtain ⟨⟨b0, b1, b2, b3, b4⟩, y3, y4⟩ := vbox hx6; obtain ⟨z0, z1, z2, z3, z4, x0, x1, x2, x3, x4⟩ := zero5 hres6; have HW6 := Lib.hid hw6; have HRES6 := Lib.hid hres6; clear hw6 hx6 hres6))
     | ((with_reducible refine gate_store (t := 54) (p := 4) rfl ?_); go_must (refine store_event (t := 54) (p := 4) (v := .tmp 35) (w1 := put5 w6 rb (cpy 0 m) B3 e3 B4 e4) ?hg ?ho ?hn ?hr ?_; (case ho => exact zk16); (case hg => exact zk16); (case hn => exact zk16); (case hr => exact zk89); intro w7 hw7; have HW7 := Lib.hid hw7; clear hw7 z0 z1 z2 z3 z4 x0 x1 x2 x3 x4 b0 b1 b2 b3 b4 y3 y4)))
    have hres7 : w7.heap[rb]? = some (.cells (mobj (cpy 0 m) B3 e3 B4 e4) 54 (0, 0)) := by rw [HW7.out]; exact put5_at HRES6.out
    have hgw : w.heap.size ≤ gb := zk84
    have hrw : w.heap.size ≤ rb := by rw [HRB.out]; exact HW.out
    have hb7 : Below w.heap.size w w7 := zk72
    have hf7 : Far (fun k => k = gb ∨ k = rb) wr w7 := zk41
    have hgb := HGB.out; have hrb := HRBL.out; have hw2 : w.heap.size ≤ w2.heap.size := HB2.out.size; have g3 := Kd.R_lower (Kd.R_mono (ok' := fun k => w.heap.size ≤ k) (R_other HR3.out hf7 (fun k a c => by rcases c with c | c <;> omega)) (fun k a => Nat.le_trans hw2 a)) hw2; have hw4 : w2.heap.size ≤ w4.heap.size := W24.out; have g4 := Kd.R_lower (Kd.R_mono (ok' := fun k => w.heap.size ≤ k) (R_other (ok := fun k => w4.heap.size ≤ k) HRK.out hf7 (fun k a c => by rcases c with c | c <;> omega)) (fun k a => by omega)) (show w.heap.size ≤ w4.heap.size by omega); refine bodyPost_ret (results_cell_row rfl _ _ rb 54 (mobj (cpy 0 m) B3 e3 B4 e4) (0, 0) _ rfl hres7 Try.underlying54 rfl zk3) rfl ?_; exact ⟨_, _, rfl, k54_mkM w7 w.heap.size _ (cpy 0 m) g3 g4, hb7⟩
 | succ d ih =>
  intro hd wm w m A3 A4 c3 c4 hmk hwm hb; have HMK := Lib.hid hmk; have HWM := Lib.hid hwm; have HBM := Lib.hid hb; have hk1 := hwm.c; have hk2 := hwm.l; have ih2 := @ih zk12; rw [show (12 : Int) - (d : Int) = 12 - ((d : Int) + 1) + 1 by omega] at ih2; have HIH := Lib.hid (fun (_ : Unit) => @ih2); clear ih ih2; clear hmk hwm hb; go_enter Try.func47, Try.ntmps47
  go_upto_region 2 with (first
   | ((with_reducible refine gate_dst (N := 2) rfl ?_); go_must (refine box_event ?hg (N := 2) ?hd (cs := vobj m (.slice A3 m.f3.length c3) (.slice A4 m.f4.length c4)) (t := 54) ?hr ?_; (case hd => exact zk16); (case hg => exact zk16); (case hr => exact zk9); intro gb hg w1 hbox hb1; have HBOX1 := Lib.hid hbox; have HB1 := Lib.hid hb1; have HG := Lib.hid hg; clear hbox hb1 hg))
   | ((with_reducible refine gate_dst (N := 4) rfl ?_); go_must (refine box_event ?hg (N := 4) ?hd (cs := zobj) (t := 54) ?hr ?_; (case hd => exact zk16); (case hg => exact zk16); (case hr => exact zk9); intro rb hg w2 hres hb2; have hx2 := (hb2.block gb (Array.getElem?_eq_some_iff.1 HBOX1.out).1).trans HBOX1.out; obtain ⟨⟨b0, b1, b2, b3, b4⟩, y3, y4⟩ := vbox hx2; have HRB := Lib.hid hg; have HGR := Lib.hid (show gb < rb by rw [hg]; exact (Array.getElem?_eq_some_iff.1 HBOX1.out).1); have HRES := Lib.hid hres; have HX2 := Lib.hid hx2; have HB2 := Lib.hid (HB1.out.trans (hb2.mono HB1.out.size)); have HW := Lib.hid HB1.out.size; clear hres hb2 hx2 hg HBOX1))
   | ((with_reducible refine gate_dst (N := 9) rfl ?_); go_must (refine Kd.R_append_rows Kd.string (w0 := w2) w2.heap.size rfl (.const (.slice none 0 0)) (.tmp 8) 51 9 (.string ⟨#[]⟩) 16 rfl Try.underlying51 infoS9 rfl zk40 zk40 (.slice none 0 0) ([] : List ByteArray) m.f3 A3 m.f3.length c3 (fun k => w2.heap.size ≤ k) (fun _ => False) rfl rfl (Kd.R_nil _ _ _ _ _) (Kd.C_below HMK.out.g3 (HBM.out.trans (HB2.out.mono HBM.out.size))) (fun _ _ h => h) (fun _ h => h.elim) (fun _ h => h) (Below.refl _ _) (Nat.le_refl _) (by simp only [List.length_nil]; omega) ?_; intro v3 w3 hr3 hb3 _ _; rw [List.nil_append] at hr3; obtain ⟨B3, e3, rfl⟩ := Kd.R_slice hr3; have hx3 := (hb3.block gb (Array.getElem?_eq_some_iff.1 HX2.out).1).trans HX2.out; clear b0 b1 b2 b3 b4 y3 y4; obtain ⟨⟨b0, b1, b2, b3, b4⟩, y3, y4⟩ := vbox hx3; have HR3 := Lib.hid hr3; have HX3 := Lib.hid hx3; have HB3 := Lib.hid hb3; clear hr3 hb3 hx3))
   | ((with_reducible refine gate_store (t := 51) (p := 10) rfl ?_); go_must (refine store_event (t := 51) (p := 10) (v := .tmp 9) (w1 := w3.setCell ⟨gb, 3, none⟩ (.slice B3 m.f3.length e3)) ?hg ?ho ?hn ?hr ?_; (case ho => exact zk16); (case hg => exact zk16); (case hn => exact zk16); (case hr => exact zk9); intro w4 hw4; have HW4 := Lib.hid hw4; clear hw4)))
  have hgb : gb < w2.heap.size := (Array.getElem?_eq_some_iff.1 HX2.out).1; have hrb : rb < w2.heap.size := (Array.getElem?_eq_some_iff.1 HRES.out).1; have hgr : gb ≠ rb := fun c => by have := HGR.out; omega
  have hx4 : w4.heap[gb]? = some (.cells (vobj m (.slice B3 m.f3.length e3) (.slice A4 m.f4.length c4)) 54 (0, 0)) := by rw [HW4.out]; exact blk_put HX3.out 3 _ rfl
  have hres4 : w4.heap[rb]? = some (.cells zobj 54 (0, 0)) := zk54
  have hb4 : Below w.heap.size w w4 := zk53
  have hr4 : Kd.R Kd.string 9 w4 w2.heap.size (fun k => w2.heap.size ≤ k) (.slice B3 m.f3.length e3) m.f3 := zk48
  clear b0 b1 b2 b3 b4 y3 y4; obtain ⟨⟨b0, b1, b2, b3, b4⟩, y3, y4⟩ := vbox hx4; have HX4 := Lib.hid hx4; have W24 := Lib.hid (show w2.heap.size ≤ w4.heap.size by rw [HW4.out]; simp only [World.setCell]; simpa using HB3.out.size); have HRES4 := Lib.hid hres4; have HB4 := Lib.hid hb4; have HR4 := Lib.hid hr4; have HGB := Lib.hid hgb; have HRBL := Lib.hid hrb; have HNE := Lib.hid hgr; clear hx4 hres4 hb4 hr4 hgb hrb hgr HX2 HX3 HR3 HRES HW4; go_wp2; go_loopw [5, 6] (fun v5 v6 wk => ∃ i : Nat, i ≤ m.f4.length ∧ v6 = .int .i64 (i : Int) ∧ Kd.R k54 54 wk w4.heap.size (fun k => w4.heap.size ≤ k) v5 ((m.f4.take i).map (cpy d)) ∧ Below w4.heap.size w4 wk) (fun _ v6 _ => m.f4.length - (intOf v6).toNat)
  case atStart => exact ⟨0, Nat.zero_le _, rfl, Kd.R_nil _ _ _ _ _, Below.refl _ _⟩
  case round =>
   obtain ⟨i, hi, rfl, hrk, hbk⟩ := hrel; have hxr := (hbk.block gb (Array.getElem?_eq_some_iff.1 HX4.out).1).trans HX4.out; clear b0 b1 b2 b3 b4 y3 y4; obtain ⟨⟨b0, b1, b2, b3, b4⟩, y3, y4⟩ := vbox hxr; by_cases hil : i < m.f4.length
   ·have e1 : decide ((i : Int) < (m.f4.length : Int)) = true := decide_eq_true zk12
    have e2 : decide (i < m.f4.length) = true := decide_eq_true hil; obtain ⟨ad, K3, q3, K4, q4, rfl, hkm, k0, k1, k2, k3, k4⟩ := kid_at HMK.out.g4 i hil; have hbm : Below wm.heap.size wm wr := (HBM.out.trans (HB4.out.mono HBM.out.size)).trans (hbk.mono (Nat.le_trans HBM.out.size HB4.out.size)); replace k0 := (hbm.cell (World.block_lt_of_cell? wm _ k0)).trans k0; replace k1 := (hbm.cell (World.block_lt_of_cell? wm _ k1)).trans k1; replace k2 := (hbm.cell (World.block_lt_of_cell? wm _ k2)).trans k2; replace k3 := (hbm.cell (World.block_lt_of_cell? wm _ k3)).trans k3; replace k4 := (hbm.cell (World.block_lt_of_cell? wm _ k4)).trans k4; have hkw := HWM.out.k _ (kid_mem hil); have htk := take_map (cpy d) m.f4 i hil; obtain ⟨y, hy⟩ : ∃ y, rd_T54 m.f4 (i : Int) = y := ⟨_, rfl⟩
    rw [hy] at hkm k0 k1 k2 k3 k4 hkw htk; have HCALL := Lib.hid (HIH.out () hkm hkw hbm); have hln : ((m.f4.take i).map (cpy d)).length = i := by rw [List.length_map, List.length_take]; omega
    have HRK := Lib.hid hrk; have HBK := Lib.hid hbk; have HTK := Lib.hid htk; have HLN := Lib.hid hln; clear hkm hkw hbm hy hrk hbk hxr htk hln
    go_wp2_with (first
     | (go_at_call 47; go_must (refine HCALL.out.mono ?_; rintro e w5 ⟨v3, v4, rfl, hm5, hb5⟩; have HM5 := Lib.hid hm5; have HB5 := Lib.hid hb5; clear hm5 hb5))
     | ((with_reducible refine gate_dst (N := 32) rfl ?_); go_must (refine Kd.R_append k54 (w0 := w4) w4.heap.size rfl (.tmp 22) (.tmp 31) 52 54 (.agg #[.int .i64 0, .string ⟨#[]⟩, .string ⟨#[]⟩, .slice none 0 0, .slice none 0 0]) 88 rfl Try.underlying52 infoM rfl zk40 zk40 u5 ((m.f4.take i).map (cpy d)) (cpy d y) [.int .i64 y.f0, .string y.f1, .string y.f2, v3, v4] (fun k => w4.heap.size ≤ k) (fun k => wr.heap.size ≤ k) rfl rfl (k54.M_lower HBK.out.size HM5.out) (fun k hk => ⟨Nat.le_trans HBK.out.size hk, fun e => by obtain ⟨inner, ho⟩ := Kd.R_own HRK.out; have := own_lt ho k e.symm; omega⟩) (fun k hk => Nat.le_trans (Nat.le_trans HBK.out.size HB5.out.size) hk) (Kd.R_below HRK.out HB5.out) (HBK.out.trans (HB5.out.mono HBK.out.size)) (Nat.le_trans HBK.out.size HB5.out.size) (by rw [HLN.out]; omega) ?_; intro v1 w9 hr9 hb9 _ _; have HR9 := Lib.hid hr9; have HB9 := Lib.hid hb9; clear hr9 hb9)))
    go_roundw
    case rel => exact ⟨i + 1, hil, zk30, by rw [HTK.out]; exact HR9.out, HB9.out⟩
    case measure => simp [intOf]; omega
   obtain rfl : i = m.f4.length := zk12
   rw [List.take_length] at hrk; have e1 : decide ((m.f4.length : Int) < (m.f4.length : Int)) = false := decide_eq_false zk12; have e2 : decide (m.f4.length < m.f4.length) = false := decide_eq_false zk12; clear hil hi; have hb5 : Below w.heap.size w wr := HB4.out.trans (hbk.mono HB4.out.size); have hx5 := (hbk.block gb (Array.getElem?_eq_some_iff.1 HX4.out).1).trans HX4.out; have hres5 := (hbk.block rb (Array.getElem?_eq_some_iff.1 HRES4.out).1).trans HRES4.out; have hr3 := Kd.R_below HR4.out hbk; obtain ⟨B4, e4, rfl⟩ := Kd.R_slice hrk; rw [show (List.map (cpy d) m.f4).length = (cpy (d + 1) m).f4.length from rfl] at hrk ⊢; have HRK := Lib.hid hrk; have HR3 := Lib.hid hr3; have HX5 := Lib.hid hx5; have HRES5 := Lib.hid hres5; have HB5 := Lib.hid hb5; have HSZ := Lib.hid hbk.size; clear hrk hr3 hx5 hres5 hb5 hbk
   go_wp2_with (first
    | ((with_reducible refine gate_store (t := 52) (p := 34) rfl ?_); go_must (refine store_event (t := 52) (p := 34) (v := .tmp 33) (w1 := wr.setCell ⟨gb, 4, none⟩ (.slice B4 (cpy (d + 1) m).f4.length e4)) ?hg ?ho ?hn ?hr ?_; (case ho => exact zk16); (case hg => exact zk16); (case hn => exact zk16); (case hr => exact zk9); intro w6 hw6; have hx6 : w6.heap[gb]? = some (.cells (vobj m (.slice B3 m.f3.length e3) (.slice B4 (cpy (d + 1) m).f4.length e4)) 54 (0, 0)) := (by rw [hw6]; exact blk_put HX5.out 4 _ rfl); have hres6 : w6.heap[rb]? = some (.cells zobj 54 (0, 0)) := zk69; clear b0 b1 b2 b3 b4 y3 y4; obtain ⟨⟨b0, b1, b2, b3, b4⟩, y3, y4⟩ := vbox hx6; obtain ⟨z0, z1, z2, z3, z4, x0, x1, x2, x3, x4⟩ := zero5 hres6; have HW6 := Lib.hid hw6; have HRES6 := Lib.hid hres6; clear hw6 hx6 hres6))
    | ((with_reducible refine gate_store (t := 54) (p := 4) rfl ?_); go_must (refine store_event (t := 54) (p := 4) (v := .tmp 35) (w1 := put5 w6 rb (cpy (d + 1) m) B3 e3 B4 e4) ?hg ?ho ?hn ?hr ?_; (case ho => exact zk16); (case hg => exact zk16); (case hn => exact zk16); (case hr => exact zk89); intro w7 hw7; have HW7 := Lib.hid hw7; clear hw7 z0 z1 z2 z3 z4 x0 x1 x2 x3 x4 b0 b1 b2 b3 b4 y3 y4)))
   have hres7 : w7.heap[rb]? = some (.cells (mobj (cpy (d + 1) m) B3 e3 B4 e4) 54 (0, 0)) := by rw [HW7.out]; exact put5_at HRES6.out
   have hgw : w.heap.size ≤ gb := zk84
   have hrw : w.heap.size ≤ rb := by rw [HRB.out]; exact HW.out
   have hb7 : Below w.heap.size w w7 := zk72
   have hf7 : Far (fun k => k = gb ∨ k = rb) wr w7 := zk41
   have hgb := HGB.out; have hrb := HRBL.out; have hw2 : w.heap.size ≤ w2.heap.size := HB2.out.size; have g3 := Kd.R_lower (Kd.R_mono (ok' := fun k => w.heap.size ≤ k) (R_other HR3.out hf7 (fun k a c => by rcases c with c | c <;> omega)) (fun k a => Nat.le_trans hw2 a)) hw2; have hw4 : w2.heap.size ≤ w4.heap.size := W24.out; have g4 := Kd.R_lower (Kd.R_mono (ok' := fun k => w.heap.size ≤ k) (R_other (ok := fun k => w4.heap.size ≤ k) HRK.out hf7 (fun k a c => by rcases c with c | c <;> omega)) (fun k a => by omega)) (show w.heap.size ≤ w4.heap.size by omega); refine bodyPost_ret (results_cell_row rfl _ _ rb 54 (mobj (cpy (d + 1) m) B3 e3 B4 e4) (0, 0) _ rfl hres7 Try.underlying54 rfl zk3) rfl ?_; exact ⟨_, _, rfl, k54_mkM w7 w.heap.size _ (cpy (d + 1) m) g3 g4, hb7⟩
end Go.Proofs.Ytlkhdbfhnpbbhaa
namespace Go.Proofs.Ytlkhdbfhnpbbhaa
open Go.RowKit Go.Proofs.YtlkhdbfhnpbbhaaW.PrintWords Go.Proofs.YtlkhdbfhnpbbhaaW.PrintLast Go.Proofs.YtlkhdbfhnpbbhaaW.PrintMore Go.Proofs.Ytlkhdbfhnpbbhaa.Ix Go.Proofs.Ytlkhdbfhnpbbhaa.Tx Go.Proofs.Ytlkhdbfhnpbbhaa.Mx Go.Proofs.Ytlkhdbfhnpbbhaa.Pure
set_option maxRecDepth 100000 in
set_option maxHeartbeats 8000000 in
theorem mcheck_u {w : World} {m : MT} {A3 A4 : Option Addr} {c3 c4 : Nat} (hmk : MK w m A3 c3 A4 c4) (hwm : WM m) :
  Calls Try.prog 45 #[mval m A3 c3 A4 c4] w fun e w' => e = .returned (.bool (decide (okM 8 64 4096 m))) ∧ Below w.heap.size w w' := by
 have HMK := Lib.hid hmk; have HWM := Lib.hid hwm; have hz : (1 : Int) = 9 - ((8 : Nat) : Int) := zk40
 clear hmk hwm; go_enter Try.func45, Try.ntmps45; have HZ := Lib.hid hz; clear hz
 go_wp2_with (first
  | ((with_reducible refine gate_dst (N := 1) rfl ?_); go_must (refine box_event ?hg (N := 1) ?hd (cs := mobj m A3 c3 A4 c4) (t := 54) ?hr ?_; (case hd => exact zk16); (case hg => exact zk16); (case hr => exact zk9); intro gb hg w1 hbox hb1; obtain ⟨b0, b1, b2, b3, b4⟩ := box5 hbox; have HBOX := Lib.hid hbox; have HB1 := Lib.hid hb1; have HG := Lib.hid hg; clear hbox hb1 hg))
  | ((with_reducible refine gate_dst (N := 5) rfl ?_); go_must (refine box_event ?hg (N := 5) ?hd (cs := #[.int .i64 ((64 : Nat) : Int), .int .i64 ((4096 : Nat) : Int)]) (t := 97) ?hr ?_; (case hd => exact zk16); (case hg => exact zk16); (case hr => exact zk9); intro rb hr2 w2 hroom hb2; have hbox2 := (hb2.block gb (Array.getElem?_eq_some_iff.1 HBOX.out).1).trans HBOX.out; clear b0 b1 b2 b3 b4; obtain ⟨b0, b1, b2, b3, b4⟩ := box5 hbox2; have HRB := Lib.hid (show w.heap.size ≤ rb by rw [hr2]; exact HB1.out.size); have HB2 := Lib.hid (HB1.out.trans (hb2.mono HB1.out.size)); have HC := Lib.hid (holds_u 8 (Nat.le_refl _) HMK.out HWM.out HB2.out HRB.out (Nat.le_refl 64) (Nat.le_refl 4096) hroom); rw [← HZ.out] at HC; clear hroom hb2 hr2 hbox2))
  | (go_at_call 60; go_must (refine HC.out.mono ?_; rintro e w5 ⟨r, x5, y5, rfl, hiff, -, -, hb5, -⟩; have HIFF := Lib.hid hiff; have HB5 := Lib.hid (HB2.out.trans (hb5.mono HRB.out)); clear hb5 hiff)))
 go_ret
 refine ⟨?_, HB5.out⟩; rw [show r = decide (okM 8 64 4096 m) from Bool.eq_iff_iff.2 (HIFF.out.trans decide_eq_true_iff.symm)]; rfl
end Go.Proofs.Ytlkhdbfhnpbbhaa
namespace Go.Proofs.Ytlkhdbfhnpbbhaa
open Go.RowKit Go.Maps Go.Proofs.YtlkhdbfhnpbbhaaW.PrintWords Go.Proofs.YtlkhdbfhnpbbhaaW.PrintLast Go.Proofs.YtlkhdbfhnpbbhaaW.PrintMore Go.Proofs.Ytlkhdbfhnpbbhaa.Ix Go.Proofs.Ytlkhdbfhnpbbhaa.Tx Go.Proofs.Ytlkhdbfhnpbbhaa.Mx Go.Proofs.Ytlkhdbfhnpbbhaa.Pure
def matchB (m : MT) (l : List LB) : Bool := decide (okM 8 64 4096 m) && evalD 8 m l
set_option maxRecDepth 100000 in
set_option maxHeartbeats 8000000 in
theorem meval_u {w : World} {m : MT} {A3 A4 A : Option Addr} {c3 c4 c : Nat} {l : List LB} (hmk : MK w m A3 c3 A4 c4) (hwm : WM m)
  (hC : Kd.C k41 w A l.length l) (hc : l.length ≤ c) (hl : l.length ≤ 8) :
  Calls Try.prog 29 #[mval m A3 c3 A4 c4, .slice A l.length c] w fun e w' => e = .returned (.bool (matchB m l)) ∧ Below w.heap.size w w' := by
 have HMK := Lib.hid hmk; have HWM := Lib.hid hwm; have HC := Lib.hid hC; have HCL := Lib.hid hc; have HL := Lib.hid hl; clear hmk hwm hC hc hl; by_cases hok : okM 8 64 4096 m
 ·have HEV := Lib.hid (fun (w' : World) (hb : Below w.heap.size w w') => match_eval.calls (l.length + 20 + 8 * 80) m.f0 m.f1 m.f2 A3 c3 m.f3 A4 c4 m.f4 A c l _ w' (HMK.out.below hb).g3 HMK.out.l3 (HMK.out.below hb).g4 HMK.out.l4 (Kd.C_below HC.out hb) HCL.out (eval_eq l (by have := HL.out; omega) 8 64 4096 m hok (Nat.le_refl _) _ (Nat.le_refl _)))
  have HMB := Lib.hid (show matchB m l = evalD 8 m l by unfold matchB; rw [decide_eq_true hok, Bool.true_and]); have HOK := Lib.hid (decide_eq_true hok); obtain ⟨q, hq⟩ : ∃ q, evalD 8 m l = q := ⟨_, rfl⟩
  rw [hq] at HEV HMB; clear hok hq; go_enter Try.func29, Try.ntmps29
  go_wp2_with (first
   | ((with_reducible refine gate_dst (N := 2) rfl ?_); go_must (refine box_event ?hg (N := 2) ?hd (cs := mobj m A3 c3 A4 c4) (t := 54) ?hr ?_; (case hd => exact zk16); (case hg => exact zk16); (case hr => exact zk9); intro gb hg w1 hbox hb1; obtain ⟨b0, b1, b2, b3, b4⟩ := box5 hbox; have HBOX := Lib.hid hbox; have HB1 := Lib.hid hb1; clear hbox hb1 hg))
   | (go_at_call 45; go_must (refine (mcheck_u (HMK.out.below HB1.out) HWM.out).mono ?_; rintro e w2 ⟨rfl, hb2⟩; rw [HOK.out]; have hbox2 := (hb2.block gb (Array.getElem?_eq_some_iff.1 HBOX.out).1).trans HBOX.out; clear b0 b1 b2 b3 b4; obtain ⟨b0, b1, b2, b3, b4⟩ := box5 hbox2; have HB2 := Lib.hid (HB1.out.trans (hb2.mono HB1.out.size)); clear hbox2 hb2))
   | (go_at_call 50; go_must (refine (HEV.out _ HB2.out).mono ?_; rintro e w3 ⟨rfl, hb3⟩; have HB3 := Lib.hid (HB2.out.trans (hb3.mono HB2.out.size)); clear hb3 b0 b1 b2 b3 b4)))
  go_ret
  exact ⟨by rw [HMB.out]; rfl, HB3.out⟩
 ·have HMB := Lib.hid (show matchB m l = false by unfold matchB; rw [decide_eq_false hok, Bool.false_and])
  have HOK := Lib.hid (decide_eq_false hok); clear hok; go_enter Try.func29, Try.ntmps29
  go_wp2_with (first
   | ((with_reducible refine gate_dst (N := 2) rfl ?_); go_must (refine box_event ?hg (N := 2) ?hd (cs := mobj m A3 c3 A4 c4) (t := 54) ?hr ?_; (case hd => exact zk16); (case hg => exact zk16); (case hr => exact zk9); intro gb hg w1 hbox hb1; obtain ⟨b0, b1, b2, b3, b4⟩ := box5 hbox; have HBOX := Lib.hid hbox; have HB1 := Lib.hid hb1; clear hbox hb1 hg))
   | (go_at_call 45; go_must (refine (mcheck_u (HMK.out.below HB1.out) HWM.out).mono ?_; rintro e w2 ⟨rfl, hb2⟩; rw [HOK.out]; have HB2 := Lib.hid (HB1.out.trans (hb2.mono HB1.out.size)); clear hb2 b0 b1 b2 b3 b4)))
  go_ret
  exact ⟨by rw [HMB.out]; rfl, HB2.out⟩
set_option maxRecDepth 100000 in
set_option maxHeartbeats 8000000 in
theorem sel1_u {w : World} {pm : Nat} {m : MT} {A3 A4 A : Option Addr} {c3 c4 c : Nat} {l : List LB} (hn : w.heap[pm]? = some (.cells (mobj m A3 c3 A4 c4) 54 (0, 0))) (hmk : MK w m A3 c3 A4 c4) (hwm : WM m)
  (hC : Kd.C k41 w A l.length l) (hc : l.length ≤ c) (hl : l.length ≤ 8) :
  Calls Try.prog 46 #[.slice A l.length c, .pointer (some ⟨pm, 0, none⟩)] w fun e w' => e = .returned (.bool (matchB m l)) ∧ Below w.heap.size w w' := by
 obtain ⟨b0, b1, b2, b3, b4⟩ := box5 hn; have HEV := Lib.hid (meval_u hmk hwm hC hc hl); clear hn hmk hwm hC hc hl; go_enter Try.func46, Try.ntmps46; (go_wp2_with (go_at_call 29; go_must (refine HEV.out.mono ?_; rintro e w3 ⟨rfl, hb3⟩; have HB3 := Lib.hid hb3; clear hb3 b0 b1 b2 b3 b4))); go_ret
 exact ⟨rfl, HB3.out⟩
set_option maxRecDepth 100000 in
set_option maxHeartbeats 8000000 in
theorem thoseM_u {f : Nat → Prop} {w : World} {base kb mb : Nat} {S : List (List LB)} (h : IX f w base kb mb S) (hS : S.length < 4096) {pm : Nat} {m : MT} {A3 A4 : Option Addr} {c3 c4 : Nat}
  (hn : w.heap[pm]? = some (.cells (mobj m A3 c3 A4 c4) 54 (0, 0))) (hmk : MK w m A3 c3 A4 c4) (hwm : WM m) {k : Nat} (hR : post_Rises.f k (sel (matchB m) S S.length) = some true) :
  Calls Try.prog 40 #[.pointer (some ⟨kb, 0, none⟩), .func (.func 46) #[] #[.pointer (some ⟨pm, 0, none⟩)]] w
   fun e w' => ∃ v, e = .returned v ∧ w'.ownsRow w.heap.size 3 1 v (sel (matchB m) S S.length).length ((sel (matchB m) S S.length).map (.int .i64)) ∧ Below w.heap.size w w' := by
 have HX := Lib.hid h; have HRI := Lib.hid hR; have HN := Lib.hid (Array.getElem?_eq_some_iff.1 hn).1; have HCN := Lib.hid hn; have HMK := Lib.hid hmk; have HWM := Lib.hid hwm; obtain ⟨v, hv0, hR0⟩ := h.cells; obtain ⟨A, c, rfl, hcc, hCS⟩ := Kd.R_reads hR0; have HCS := Lib.hid hCS; have c0 := blk_cell hv0 0; obtain ⟨q, hq⟩ : ∃ q, matchB m = q := ⟨_, rfl⟩
 have HQ := Lib.hid hq; rw [hq] at HRI ⊢; clear h hR hn hmk hwm hR0 hCS hv0 hq; go_enter Try.func40, Try.ntmps40; go_wp2
 go_loopw [5, 16] (fun v5 v16 wr => ∃ i : Nat, i ≤ S.length ∧ v16 = .int .i64 (i : Int) ∧ Kd.R (Kd.int .i64) 3 wr w.heap.size (fun _ => True) v5 (sel q S i) ∧ Below w.heap.size w wr)
  (fun _ v16 _ => S.length - (intOf v16).toNat)
 case atStart => exact ⟨0, Nat.zero_le _, rfl, Kd.R_nil _ _ _ _ _, Below.refl _ _⟩
 case round =>
  obtain ⟨i, hi, rfl, hr, hb⟩ := hrel; by_cases hlt : i < S.length
  ·obtain ⟨ad, A', c', rfl, hcell, hle, hC'⟩ := set_at HCS.out i hlt
   have hc2 := (hb.cell (World.block_lt_of_cell? w _ hcell)).trans hcell
   have hs8 : (S.getD i []).length ≤ 8 := by
    have : S.getD i [] ∈ S := zk47
    exact zk130
   have hsl := sel_len q S i; have hsu := sel_succ q S i; have hC2 := Kd.C_below hC' hb; obtain ⟨x, hx⟩ : ∃ x, S.getD i [] = x := ⟨_, rfl⟩
   rw [hx] at hc2 hle hC2 hs8 hsu; have hqx : matchB m x = q x := by rw [HQ.out]
   have HC2 := Lib.hid hC2; have HLE := Lib.hid hle; have HB := Lib.hid hb; have hnn := (hb.block pm HN.out).trans HCN.out; have HP := Lib.hid (sel1_u hnn (HMK.out.below hb) HWM.out hC2 hle hs8); rw [hqx] at HP; have HR := Lib.hid hr; have HSU := Lib.hid hsu; clear hcell hC' hC2 hle hb hnn hr hx hqx hsu; by_cases hqi : q x = true
   ·rw [hqi] at HP HSU
    go_wp2_with (first
     | (go_at_call 46; go_must (refine HP.out.mono ?_; rintro e w1 ⟨rfl, hb1⟩; have HB1 := Lib.hid hb1; have HR1 := Lib.hid (Kd.R_below HR.out hb1); clear hb1))
     | (at_builtin; go_must (refine Kd.R_append (Kd.int .i64) (w0 := w) w.heap.size rfl (.tmp 24) (.tmp 26) 38 3 (.int .i64 0) 8 rfl Try.underlying38 infoI rfl zk40 zk40 u5 (sel q S i) ((i : Nat) : Int) [.int .i64 ((i : Nat) : Int)] (fun _ => True) (fun _ => False) rfl rfl rfl (fun _ h => h.elim) (fun _ _ => trivial) HR1.out (HB.out.trans (HB1.out.mono HB.out.size)) (Nat.le_trans HB.out.size HB1.out.size) zk12 ?_; intro v1 w2 hr2 hb2 _ _; have HR2 := Lib.hid hr2; have HB2 := Lib.hid hb2; clear hr2 hb2)))
    go_roundw
    case rel => exact ⟨i + 1, hlt, zk30, by rw [HSU.out]; simpa using HR2.out, HB2.out⟩
    case measure => simp [intOf]; omega
   ·rw [eq_false_of_ne_true hqi] at HP HSU
    go_wp2_with (go_at_call 46; go_must (refine HP.out.mono ?_; rintro e w1 ⟨rfl, hb1⟩; have HB1 := Lib.hid hb1; have HR1 := Lib.hid (Kd.R_below HR.out hb1); clear hb1))
    go_roundw
    case rel => exact ⟨i + 1, hlt, zk30, by rw [HSU.out]; simpa using HR1.out, HB.out.trans (HB1.out.mono HB.out.size)⟩
    case measure => simp [intOf]; omega
  ·obtain rfl : i = S.length := by omega
   obtain ⟨A', c', rfl, hle, hC'⟩ := Kd.R_reads hr; have hsl := sel_len q S S.length; have HC2 := Lib.hid hC'; have HLE := Lib.hid hle; have HB := Lib.hid hb; clear hr hle hC' hb
   go_wp2_with (first
    | (go_at_call 59; go_must (refine (from_u zk58 HLE.out HRI.out zk12).mono ?_; rintro e w1 ⟨ob, kb1, rfl, hi1, hb1⟩; have HI1 := Lib.hid hi1; have HB1 := Lib.hid hb1; clear hi1 hb1))
    | (go_at_call 58; go_must (refine (list_u HI1.out zk12).mono ?_; rintro e w2 ⟨v2, rfl, hr2, hb2⟩; have HR2 := Lib.hid hr2; have HB2 := Lib.hid hb2; clear hr2 hb2)))
   have hB1 : Below w.heap.size w w1 := by
    first
     | exact HB.out.trans (HB1.out.mono HB.out.size)
     | exact HB.out.trans (((below_drew (Below.refl _ _)).trans HB1.out).mono HB.out.size)
     | exact HB.out.trans (((pw_below_drewN (Below.refl _ _) _).trans HB1.out).mono HB.out.size)
   go_ret
   exact ⟨v2, rfl, own_weaken HR2.out hB1.size, hB1.trans (HB2.out.mono hB1.size)⟩
set_option maxRecDepth 100000 in
set_option maxHeartbeats 8000000 in
theorem isel_u {f : Nat → Prop} {w : World} {base kb mb : Nat} {S : List (List LB)} (h : IX f w base kb mb S) (hS : S.length < 4096) {m : MT} {A3 A4 : Option Addr} {c3 c4 : Nat} (hmk : MK w m A3 c3 A4 c4) (hwm : WM m) {k : Nat} (hR : post_Rises.f k (sel (matchB m) S S.length) = some true) (hok : okM 8 64 4096 m) :
  Calls Try.prog 25 #[.pointer (some ⟨kb, 0, none⟩), mval m A3 c3 A4 c4] w
   fun e w' => ∃ v, e = .returned (.tuple #[v, .int .i64 0]) ∧ w'.ownsRow w.heap.size 3 1 v (sel (matchB m) S S.length).length ((sel (matchB m) S S.length).map (.int .i64)) ∧ Below w.heap.size w w' := by
 have HX := Lib.hid h; have HMK := Lib.hid hmk; have HWM := Lib.hid hwm; have HR := Lib.hid hR; have HS := Lib.hid hS; have HOK := Lib.hid (decide_eq_true hok); have hmf : ∀ (fn : Fn) (first cap : Array Value) (w : World), (Instr.makeFunc fn first cap).run Try.prog w = .ok (.func fn first cap) w := fun _ _ _ _ => rfl; clear h hmk hwm hR hok hS; go_enter Try.func25, Try.ntmps25
 go_wp2_with (first
   | ((with_reducible refine gate_dst (N := 3) rfl ?_); go_must (refine box_event ?hg (N := 3) ?hd (cs := mobj m A3 c3 A4 c4) (t := 54) ?hr ?_; (case hd => exact zk16); (case hg => exact zk16); (case hr => exact zk9); intro gb hg w1 hbox hb1; obtain ⟨b0, b1, b2, b3, b4⟩ := box5 hbox; have HBOX := Lib.hid hbox; have HB1 := Lib.hid hb1; clear hbox hb1 hg))
   | (go_at_call 45; go_must (refine (mcheck_u (HMK.out.below HB1.out) HWM.out).mono ?_; rintro e w2 ⟨rfl, hb2⟩; rw [HOK.out]; have hbox2 := (hb2.block gb (Array.getElem?_eq_some_iff.1 HBOX.out).1).trans HBOX.out; clear b0 b1 b2 b3 b4; have hb02 := HB1.out.trans (hb2.mono HB1.out.size); have HT := Lib.hid (thoseM_u (HX.out.below hb02) HS.out hbox2 (HMK.out.below hb02) HWM.out HR.out); have HB2 := Lib.hid hb02; clear hbox2 hb2 hb02))
   | (go_at_call 40; go_must (refine HT.out.mono ?_; rintro e w3 ⟨v1, rfl, hr1, hb3⟩; have HR1 := Lib.hid hr1; have HB3 := Lib.hid hb3; clear hr1 hb3)))
 go_ret2
 exact ⟨v1, rfl, own_weaken HR1.out HB2.out.size, HB2.out.trans (HB3.out.mono HB2.out.size)⟩
set_option maxRecDepth 100000 in
set_option maxHeartbeats 8000000 in
theorem isel_no {w : World} {kb : Nat} {m : MT} {A3 A4 : Option Addr} {c3 c4 : Nat} (hmk : MK w m A3 c3 A4 c4) (hwm : WM m) (hok : ¬ okM 8 64 4096 m) :
  Calls Try.prog 25 #[.pointer (some ⟨kb, 0, none⟩), mval m A3 c3 A4 c4] w
   fun e w' => e = .returned (.tuple #[.slice none 0 0, .int .i64 5]) ∧ Below w.heap.size w w' := by
 have HMK := Lib.hid hmk; have HWM := Lib.hid hwm; have HOK := Lib.hid (decide_eq_false hok); clear hmk hwm hok; go_enter Try.func25, Try.ntmps25
 go_wp2_with (first
   | ((with_reducible refine gate_dst (N := 3) rfl ?_); go_must (refine box_event ?hg (N := 3) ?hd (cs := mobj m A3 c3 A4 c4) (t := 54) ?hr ?_; (case hd => exact zk16); (case hg => exact zk16); (case hr => exact zk9); intro gb hg w1 hbox hb1; obtain ⟨b0, b1, b2, b3, b4⟩ := box5 hbox; have HBOX := Lib.hid hbox; have HB1 := Lib.hid hb1; clear hbox hb1 hg))
   | (go_at_call 45; go_must (refine (mcheck_u (HMK.out.below HB1.out) HWM.out).mono ?_; rintro e w2 ⟨rfl, hb2⟩; rw [HOK.out]; have HB2 := Lib.hid (HB1.out.trans (hb2.mono HB1.out.size)); clear b0 b1 b2 b3 b4 hb2)))
 go_ret2
 exact ⟨rfl, HB2.out⟩
end Go.Proofs.Ytlkhdbfhnpbbhaa
namespace Go.Proofs.Ytlkhdbfhnpbbhaa
open Go.RowKit Go.Proofs.YtlkhdbfhnpbbhaaW.PrintWords Go.Proofs.YtlkhdbfhnpbbhaaW.PrintLast Go.Proofs.YtlkhdbfhnpbbhaaW.PrintMore Go.Proofs.Ytlkhdbfhnpbbhaa.Ix Go.Proofs.Ytlkhdbfhnpbbhaa.Tx Go.Proofs.Ytlkhdbfhnpbbhaa.Mx Go.Proofs.Ytlkhdbfhnpbbhaa.Pure
def txY (y : Nat) (s : ByteArray) : Nat := if s.size ≤ 4096 - y then y + s.size else y
def txB (y : Nat) (bad : Bool) (s : ByteArray) : Bool := bad || !decide (s.size ≤ 4096 - y)
theorem txY_le {y : Nat} {s : ByteArray} (h : y ≤ 4096) : txY y s ≤ 4096 := by unfold txY; split <;> omega
theorem txB_no {y : Nat} {bad : Bool} {s : ByteArray} : txB y bad s = false ↔ bad = false ∧ s.size ≤ 4096 - y := by unfold txB; simp
abbrev scells (x y : Nat) (bad : Bool) : Array Value := #[.int .i64 (x : Int), .int .i64 (y : Int), .bool bad]
theorem sz3 {w : World} {g x y : Nat} {bad : Bool} (h : w.heap[g]? = some (.cells (scells x y bad) 84 (0, 0))) :
  w.cell? ⟨g, 0, none⟩ = some (.int .i64 (x : Int)) ∧ w.cell? ⟨g, 1, none⟩ = some (.int .i64 (y : Int)) ∧ w.cell? ⟨g, 2, none⟩ = some (.bool bad) ∧ w.frozen? ⟨g, 0, none⟩ = false ∧ w.frozen? ⟨g, 1, none⟩ = false ∧ w.frozen? ⟨g, 2, none⟩ = false :=
 ⟨blk_cell h 0, blk_cell h 1, blk_cell h 2, blk_frozen h 0, blk_frozen h 1, blk_frozen h 2⟩
set_option maxRecDepth 100000 in
set_option maxHeartbeats 8000000 in
theorem text_u {w : World} {sb x y : Nat} {bad : Bool} {s : ByteArray} (hy : y ≤ 4096) (hs : s.size ≤ 140737488351232) (hr : w.heap[sb]? = some (.cells (scells x y bad) 84 (0, 0))) :
  Calls Try.prog 62 #[.pointer (some ⟨sb, 0, none⟩), .string s] w fun e w' => e = .returned (.tuple #[]) ∧ w'.heap[sb]? = some (.cells (scells x (txY y s) (txB y bad s)) 84 (0, 0)) ∧ Below sb w w' ∧ Far (fun k => k = sb) w w' := by
 obtain ⟨c0, c1, c2, f0, f1, f2⟩ := sz3 hr; have HR := Lib.hid hr; clear hr; have q1 : IntKind.i64.wrap ((4096 : Int) - (y : Int)) = 4096 - (y : Int) := IntWalk.i64_in _ zk12; by_cases h : s.size ≤ 4096 - y
 ·have e1 : decide ((4096 : Int) - (y : Int) < (s.size : Int)) = false := decide_eq_false zk12
  have e2 : (4096 : Int) - (y : Int) < (s.size : Int) ↔ False := ⟨fun h => by omega, fun h => h.elim⟩
  have q2 : IntKind.i64.wrap ((y : Int) + (s.size : Int)) = (y : Int) + (s.size : Int) := IntWalk.i64_in _ zk12; have HH := Lib.hid h; clear h; go_enter Try.func62, Try.ntmps62; (go_wp2_with ((with_reducible refine gate_store (t := 3) (p := 24) rfl ?_); go_must (refine store_event (t := 3) (p := 24) (v := .tmp 22) (w1 := w.setCell ⟨sb, 1, none⟩ (.int .i64 ((y : Int) + (s.size : Int)))) ?hg ?ho ?hn ?hr ?_; (case ho => exact zk16); (case hg => exact zk16); (case hn => exact zk16); (case hr => exact zk9); intro w2 hw2; have HW2 := Lib.hid hw2; clear hw2))); go_end0
  refine ⟨rfl, ?_, by rw [HW2.out]; exact (Below.refl _ _).setCell (p := ⟨sb, 1, none⟩) (Nat.le_refl _) _, by rw [HW2.out]; exact (Far.of_below (f := fun k => k = sb) (Below.refl _ _)).setCell (p := ⟨sb, 1, none⟩) rfl _⟩; rw [HW2.out, show txY y s = y + s.size from if_pos HH.out, show txB y bad s = bad by unfold txB; rw [decide_eq_true HH.out]; simp]; exact blk_put HR.out 1 _ zk30
 ·have e1 : decide ((4096 : Int) - (y : Int) < (s.size : Int)) = true := decide_eq_true zk12
  have e2 : (4096 : Int) - (y : Int) < (s.size : Int) ↔ True := ⟨fun _ => trivial, fun _ => by omega⟩
  have HH := Lib.hid h; clear h; go_enter Try.func62, Try.ntmps62; (go_wp2_with ((with_reducible refine gate_store (t := 4) (p := 14) rfl ?_); go_must (refine store_event (t := 4) (p := 14) (v := .const (.bool true)) (w1 := w.setCell ⟨sb, 2, none⟩ (.bool true)) ?hg ?ho ?hn ?hr ?_; (case ho => exact zk16); (case hg => exact zk16); (case hn => exact zk16); (case hr => exact zk9); intro w2 hw2; have HW2 := Lib.hid hw2; clear hw2)))
  (try simp only [Exit.inBlock, Exit.then]); refine bodyPost_ret (results_none rfl _ _ _) rfl ?_
  refine ⟨rfl, ?_, by rw [HW2.out]; exact (Below.refl _ _).setCell (p := ⟨sb, 2, none⟩) (Nat.le_refl _) _, by rw [HW2.out]; exact (Far.of_below (f := fun k => k = sb) (Below.refl _ _)).setCell (p := ⟨sb, 2, none⟩) rfl _⟩; rw [HW2.out, show txY y s = y from if_neg HH.out, show txB y bad s = true by unfold txB; rw [decide_eq_false HH.out]; simp]; exact blk_put HR.out 2 _ rfl
end Go.Proofs.Ytlkhdbfhnpbbhaa
namespace Go.Proofs.Ytlkhdbfhnpbbhaa
open Go.RowKit Go.Proofs.YtlkhdbfhnpbbhaaW.PrintWords Go.Proofs.YtlkhdbfhnpbbhaaW.PrintLast Go.Proofs.YtlkhdbfhnpbbhaaW.PrintMore Go.Proofs.Ytlkhdbfhnpbbhaa.Ix Go.Proofs.Ytlkhdbfhnpbbhaa.Tx Go.Proofs.Ytlkhdbfhnpbbhaa.Mx Go.Proofs.Ytlkhdbfhnpbbhaa.Pure
theorem tol_iff (s : ByteArray) : s.toList = [] ↔ s = emp := emp_iff s
theorem bare_none (o : Int) (m : MT) : varveref12_bare.f o m.f1 m.f2 m.f3 m.f4 false false false = some (plainB m && decide (m.f4.length = 0)) := by
 unfold varveref12_bare.f plainB; simp only [Bool.false_eq_true, if_false]; by_cases h2 : m.f2 = emp
 ·rw [if_pos ((tol_iff _).2 h2), decide_eq_true h2]
  by_cases h1 : m.f1 = emp
  ·rw [if_pos ((tol_iff _).2 h1), decide_eq_true h1]
   by_cases h3 : m.f3.length = 0
   ·exact zk114
   ·rw [if_neg zk12, decide_eq_false h3]; rfl
  ·rw [if_neg (fun c => h1 ((tol_iff _).1 c)), decide_eq_false h1]; rfl
 ·rw [if_neg (fun c => h2 ((tol_iff _).1 c)), decide_eq_false h2]; simp
theorem bare_one (o : Int) (m : MT) : varveref12_bare.f o m.f1 m.f2 m.f3 m.f4 true false false = some (decide (m.f3.length = 0) && decide (m.f4.length = 0)) := by
 unfold varveref12_bare.f; simp only [Bool.false_eq_true, if_false, if_true]; by_cases h3 : m.f3.length = 0
 ·exact zk114
 ·rw [if_neg zk12, decide_eq_false h3]; rfl
theorem bare_many (o : Int) (m : MT) : varveref12_bare.f o m.f1 m.f2 m.f3 m.f4 false true false = some (decide (m.f2 = emp) && decide (m.f4.length = 0)) := by
 unfold varveref12_bare.f; simp only [Bool.false_eq_true, if_false, if_true]; by_cases h2 : m.f2 = emp
 ·rw [if_pos ((tol_iff _).2 h2), decide_eq_true h2, show ((m.f4.length : Int) == 0) = decide (m.f4.length = 0) from len_beq _ 0]; rfl
 ·rw [if_neg (fun c => h2 ((tol_iff _).1 c)), decide_eq_false h2]; rfl
theorem bare_kids (o : Int) (m : MT) : varveref12_bare.f o m.f1 m.f2 m.f3 m.f4 false false true = some (plainB m) := by
 unfold varveref12_bare.f plainB; simp only [Bool.false_eq_true, if_false, if_true]; by_cases h2 : m.f2 = emp
 ·rw [if_pos ((tol_iff _).2 h2), decide_eq_true h2]
  by_cases h1 : m.f1 = emp
  ·rw [if_pos ((tol_iff _).2 h1), decide_eq_true h1]
   by_cases h3 : m.f3.length = 0
   ·rw [if_pos zk12, decide_eq_true h3]; rfl
   ·rw [if_neg zk12, decide_eq_false h3]; rfl
  ·rw [if_neg (fun c => h1 ((tol_iff _).1 c)), decide_eq_false h1]; rfl
 ·rw [if_neg (fun c => h2 ((tol_iff _).1 c)), decide_eq_false h2]; simp
theorem op_none {m : MT} (h : m.f0 = 0) : okOp m = (plainB m && decide (m.f4.length = 0)) := by unfold okOp; rw [if_pos h]
theorem op_one {m : MT} (h : m.f0 = 1 ∨ m.f0 = 2 ∨ m.f0 = 3) : okOp m = ((decide (m.f3.length = 0) && decide (m.f4.length = 0)) && nm m.f1 && decide (m.f2.size ≤ 64)) := by
 unfold okOp namedB; rw [if_neg zk12, if_pos h]; cases nm m.f1 <;> cases decide (m.f2.size ≤ 64) <;> cases decide (m.f4.length = 0) <;> cases decide (m.f3.length = 0) <;> rfl
theorem op_many {m : MT} (h : m.f0 = 4) : okOp m = ((decide (m.f2 = emp) && decide (m.f4.length = 0)) && nm m.f1 && valsB m.f3) := by
 unfold okOp namedB; rw [if_neg zk12, if_neg zk12, if_pos h]; by_cases h2 : m.f2 = emp
 ·rw [decide_eq_true h2, show decide (m.f2.size ≤ 64) = true by rw [h2]; rfl]
  cases nm m.f1 <;> cases decide (m.f4.length = 0) <;> cases valsB m.f3 <;> rfl
 ·rw [decide_eq_false h2]; simp
theorem op_kids {m : MT} (h : m.f0 = 5 ∨ m.f0 = 6 ∨ m.f0 = 7) : okOp m = (plainB m && (!(decide (m.f0 = 7) && !decide (m.f4.length = 1)))) := by
 unfold okOp; rw [if_neg zk12, if_neg zk12, if_neg zk12]
 rcases h with h | h | h
 ·rw [if_pos (Or.inl h), h]; simp
 ·rw [if_pos (Or.inr h), h]; simp
 ·rw [if_neg zk12, if_pos h, decide_eq_true h]; simp
theorem op_else {m : MT} (h : ¬ m.f0 = 0 ∧ ¬ m.f0 = 1 ∧ ¬ m.f0 = 2 ∧ ¬ m.f0 = 3 ∧ ¬ m.f0 = 4 ∧ ¬ m.f0 = 5 ∧ ¬ m.f0 = 6 ∧ ¬ m.f0 = 7) : okOp m = false := by
 unfold okOp; rw [if_neg zk12, if_neg zk12, if_neg zk12, if_neg zk12, if_neg zk12]
theorem plain_no {m : MT} (h : plainB m = true) : m.f1.size + m.f2.size + strsN m.f3 = 0 := by
 unfold plainB at h; simp only [Bool.and_eq_true, decide_eq_true_eq] at h; rw [h.1.1, h.1.2, List.eq_nil_of_length_eq_zero h.2]; rfl
theorem okM_leaf {d n b : Nat} {m : MT} (h : okOp m = true → m.f4.length = 0) : okM (d + 1) n b m ↔ okOp m = true ∧ 1 ≤ n ∧ m.f1.size + m.f2.size + strsN m.f3 ≤ b := by
 constructor
 ·intro hm; exact ⟨okM_op hm, (okM_room hm).1, (okM_room hm).2⟩
 ·rintro ⟨h1, h2, h3⟩; rw [okM_succ d n b m h2 h3, List.eq_nil_of_length_eq_zero (h h1)]; exact ⟨h1, okL_nil _ _ _⟩
theorem nodes_leaf {d : Nat} {m : MT} (h : m.f4.length = 0) : nodesD (d + 1) m = 1 ∧ bytesD (d + 1) m = m.f1.size + m.f2.size + strsN m.f3 := by
 simp only [nodesD, bytesD]; rw [List.eq_nil_of_length_eq_zero h]; exact ⟨rfl, rfl⟩
theorem str_mem_size {l : List ByteArray} (h : ∀ v ∈ l, v.size ≤ 140737488351232) {i : Nat} (hi : i < l.length) : (rdOf ByteArray.empty l (i : Int)).size ≤ 140737488351232 := by
 rw [show rdOf ByteArray.empty l (i : Int) = l[i] by simp [rdOf, hi]]; exact h _ (List.getElem_mem hi)
def LookPost (d x y : Nat) (m : MT) (sb : Nat) (w : World) (e : Ending) (w' : World) : Prop :=
 ∃ (x' y' : Nat) (bad : Bool), e = .returned (.tuple #[]) ∧ (bad = false ↔ okM d (64 - x) (4096 - y) m) ∧ (bad = false → x' = x + nodesD d m ∧ y' = y + bytesD d m) ∧ w'.heap[sb]? = some (.cells (scells x' y' bad) 84 (0, 0)) ∧ Below sb w w' ∧ Far (fun k => k = sb) w w'
structure LS (w0 : World) (sb gb : Nat) (m : MT) (A3 : Option Addr) (c3 : Nat) (A4 : Option Addr) (c4 : Nat) (x y : Nat) (bad : Bool) (w : World) : Prop where
 room : w.heap[sb]? = some (.cells (scells x y bad) 84 (0, 0))
 box : w.heap[gb]? = some (.cells (mobj m A3 c3 A4 c4) 54 (0, 0))
 bel : Below sb w0 w
 far : Far (fun k => k = sb) w0 w
section
variable {w0 w w' : World} {sb gb : Nat} {m : MT} {A3 : Option Addr} {c3 : Nat} {A4 : Option Addr} {c4 : Nat} {x y x' y' : Nat} {bad : Bool}
theorem LS.flag (h : LS w0 sb gb m A3 c3 A4 c4 x y bad w) (hne : gb ≠ sb) (b : Bool) : LS w0 sb gb m A3 c3 A4 c4 x y b (w.setCell ⟨sb, 2, none⟩ (.bool b)) :=
 ⟨blk_put h.room 2 _ rfl, (Below.heap_setCell _ ⟨sb, 2, none⟩ _ gb hne).trans h.box, h.bel.setCell (p := ⟨sb, 2, none⟩) (Nat.le_refl _) _, h.far.setCell (f := fun k => k = sb) (p := ⟨sb, 2, none⟩) rfl _⟩
theorem LS.step {b : Bool} (h : LS w0 sb gb m A3 c3 A4 c4 x y bad w) (hne : gb ≠ sb) (hr : w'.heap[sb]? = some (.cells (scells x' y' b) 84 (0, 0))) (hb : Below sb w w') (hf : Far (fun k => k = sb) w w') : LS w0 sb gb m A3 c3 A4 c4 x' y' b w' :=
 ⟨hr, (hf.block gb (Array.getElem?_eq_some_iff.1 h.box).1 hne).trans h.box, h.bel.trans hb, h.far.trans hf⟩
theorem LS.below (h : LS w0 sb gb m A3 c3 A4 c4 x y bad w) (hb : Below w.heap.size w w') : LS w0 sb gb m A3 c3 A4 c4 x y bad w' :=
 ⟨(hb.block sb (Array.getElem?_eq_some_iff.1 h.room).1).trans h.room, (hb.block gb (Array.getElem?_eq_some_iff.1 h.box).1).trans h.box, h.bel.trans (hb.mono (Nat.le_of_lt (Array.getElem?_eq_some_iff.1 h.room).1)), h.far.trans (Far.of_below hb)⟩
theorem LS.facts (h : LS w0 sb gb m A3 c3 A4 c4 x y bad w) :
  (w.cell? ⟨sb, 0, none⟩ = some (.int .i64 (x : Int)) ∧ w.cell? ⟨sb, 1, none⟩ = some (.int .i64 (y : Int)) ∧ w.cell? ⟨sb, 2, none⟩ = some (.bool bad) ∧ w.frozen? ⟨sb, 0, none⟩ = false ∧ w.frozen? ⟨sb, 1, none⟩ = false ∧ w.frozen? ⟨sb, 2, none⟩ = false) ∧
  w.cell? ⟨gb, 0, none⟩ = some (.int .i64 m.f0) ∧ w.cell? ⟨gb, 1, none⟩ = some (.string m.f1) ∧ w.cell? ⟨gb, 2, none⟩ = some (.string m.f2) ∧ w.cell? ⟨gb, 3, none⟩ = some (.slice A3 m.f3.length c3) ∧ w.cell? ⟨gb, 4, none⟩ = some (.slice A4 m.f4.length c4) := ⟨sz3 h.room, box5 h.box⟩
theorem look_bad {d : Nat} (h : ¬ okM d (64 - x) (4096 - y) m) (hs : LS w0 sb gb m A3 c3 A4 c4 x' y' true w) : LookPost d x y m sb w0 (.returned (.tuple #[])) w :=
 ⟨x', y', true, rfl, ⟨fun c => absurd c zk30, fun c => absurd c h⟩, fun c => absurd c zk30, hs.room, hs.bel, hs.far⟩
theorem look_leaf {d : Nat} (hx : x + 1 ≤ 64) (hy : y ≤ 4096) (hop : okOp m = true → m.f4.length = 0) (hiff : bad = false ↔ okOp m = true ∧ m.f1.size + m.f2.size + strsN m.f3 ≤ 4096 - y) (hyy : bad = false → y' = y + (m.f1.size + m.f2.size + strsN m.f3)) (hx1 : x' = x + 1) (hs : LS w0 sb gb m A3 c3 A4 c4 x' y' bad w) : LookPost (d + 1) x y m sb w0 (.returned (.tuple #[])) w := by
 refine ⟨x', y', bad, rfl, ?_, ?_, hs.room, hs.bel, hs.far⟩
 ·rw [hiff, okM_leaf hop]; exact ⟨fun h => ⟨h.1, zk12, h.2⟩, fun h => ⟨h.1, h.2.2⟩⟩
 ·intro hb; have h4 := nodes_leaf (d := d) (hop (hiff.1 hb).1); rw [h4.1, h4.2]; exact ⟨hx1, hyy hb⟩
theorem leaf2 {q : Bool} (h : q = true → strsN m.f3 = 0) : txB (txY y m.f1) (txB y (!q) m.f1) m.f2 = false ↔ q = true ∧ m.f1.size + m.f2.size + strsN m.f3 ≤ 4096 - y := by
 rw [txB_no, txB_no]; constructor
 ·rintro ⟨⟨h1, h2⟩, h3⟩
  have hq : q = true := by simpa using h1
  have := h hq; rw [show txY y m.f1 = y + m.f1.size from if_pos h2] at h3; exact ⟨hq, zk12⟩
 ·rintro ⟨hq, h1⟩
  have h2 : m.f1.size ≤ 4096 - y := zk12
  rw [show txY y m.f1 = y + m.f1.size from if_pos h2]; exact ⟨⟨by rw [hq]; rfl, h2⟩, zk12⟩
theorem leaf3 {q : Bool} (h : q = true → strsN m.f3 = 0) (hb : txB (txY y m.f1) (txB y (!q) m.f1) m.f2 = false) : txY (txY y m.f1) m.f2 = y + (m.f1.size + m.f2.size + strsN m.f3) := by
 rw [txB_no, txB_no] at hb; obtain ⟨⟨h1, h2⟩, h3⟩ := hb; have hq : q = true := by simpa using h1
 have h1 : txY y m.f1 = y + m.f1.size := if_pos h2; rw [h1] at h3 ⊢; rw [show txY (y + m.f1.size) m.f2 = y + m.f1.size + m.f2.size from if_pos h3, h hq]; omega
def ValRel (m : MT) (y i y' : Nat) (bad : Bool) : Prop := (bad = false → okOp m = true ∧ y' + strsN (m.f3.drop i) = y + (m.f1.size + m.f2.size + strsN m.f3) ∧ y' ≤ 4096) ∧ (bad = true → ¬ (okOp m = true ∧ m.f1.size + m.f2.size + strsN m.f3 ≤ 4096 - y))
theorem val_start {q : Bool} (hq : okOp m = q) (hy : y ≤ 4096) (h : q = true → m.f2.size = 0) : ValRel m y 0 (txY y m.f1) (txB y (!q) m.f1) := by
 constructor
 ·intro hb
  rw [txB_no] at hb; have hq2 : q = true := by simpa using hb.1
  rw [show txY y m.f1 = y + m.f1.size from if_pos hb.2, List.drop_zero, h hq2]; exact ⟨hq.trans hq2, zk12, zk12⟩
 ·rintro hb ⟨h1, h2⟩
  have hn : ¬ txB y (!q) m.f1 = false := by rw [hb]; simp
  rw [txB_no] at hn; exact hn ⟨by rw [← hq, h1]; rfl, zk12⟩
theorem val_step {i : Nat} {s : ByteArray} (h : ValRel m y i y' false) (hy : y ≤ 4096) (hi : i < m.f3.length) (hs : rdOf ByteArray.empty m.f3 (i : Int) = s) : ValRel m y (i + 1) (txY y' s) (txB y' false s) := by
 obtain ⟨h1, h2, h3⟩ := h.1 rfl; have hd := strsN_drop m.f3 i hi; rw [hs] at hd; constructor
 ·intro hb; rw [txB_no] at hb; rw [show txY y' s = y' + s.size from if_pos hb.2]; exact ⟨h1, zk12, zk12⟩
 ·rintro hb ⟨-, h5⟩
  have hn : ¬ txB y' false s = false := by rw [hb]; simp
  rw [txB_no] at hn; exact hn ⟨rfl, zk12⟩
theorem val_end {i : Nat} (h : ValRel m y i y' bad) (hy : y ≤ 4096) (hi : bad = false → m.f3.length ≤ i) : (bad = false ↔ okOp m = true ∧ m.f1.size + m.f2.size + strsN m.f3 ≤ 4096 - y) ∧ (bad = false → y' = y + (m.f1.size + m.f2.size + strsN m.f3)) := by
 have hn : bad = false → strsN (m.f3.drop i) = 0 := fun hb => by rw [List.drop_eq_nil_of_le (hi hb)]; rfl
 refine ⟨⟨fun hb => ?_, fun hc => ?_⟩, fun hb => ?_⟩
 ·have := h.1 hb; have := hn hb; exact ⟨(h.1 hb).1, zk12⟩
 ·cases bad
  ·rfl
  ·exact absurd hc (h.2 rfl)
 ·have := h.1 hb; have := hn hb; omega
def KRel (d : Nat) (m : MT) (x y j x' y' : Nat) (bad : Bool) : Prop := (bad = false → okOp m = true ∧ x' ≤ 64 ∧ y' ≤ 4096 ∧ KidsRel d (64 - x) (4096 - y) m (64 - x') (4096 - y') j) ∧ (bad = true → ¬ okM (d + 1) (64 - x) (4096 - y) m)
theorem k_start {d : Nat} {q : Bool} (hq : okOp m = q) (hx : x + 1 ≤ 64) (hy : y ≤ 4096) (h : q = true → m.f1.size + m.f2.size + strsN m.f3 = 0) (hx1 : x + 1 = x') : KRel d m x y 0 x' y (!q) := by
 constructor
 ·intro hb
  have hq2 : q = true := by simpa using hb
  have h0 := h hq2; have hk := kids_start (d := d) (n := 64 - x) (b := 4096 - y) (m := m) ((okM_succ d _ _ m zk12 zk12).trans (and_iff_right (hq.trans hq2))) zk12 zk12; rw [h0, Nat.sub_zero, show 64 - x - 1 = 64 - x' by omega] at hk; exact ⟨hq.trans hq2, zk12, hy, hk⟩
 ·intro hb hm; rw [← hq, okM_op hm] at hb; cases hb
theorem k_step {d j x5 y5 : Nat} {bad5 : Bool} {k : MT} (h : KRel d m x y j x' y' false) (hj : j < m.f4.length) (hk : rd_T54 m.f4 (j : Int) = k) (hiff : bad5 = false ↔ okM d (64 - x') (4096 - y') k) (hv : bad5 = false → x5 = x' + nodesD d k ∧ y5 = y' + bytesD d k) : KRel d m x y (j + 1) x5 y5 bad5 := by
 obtain ⟨h1, h2, h3, h4⟩ := h.1 rfl; constructor
 ·intro hb; have hok := hiff.1 hb; have hs := kids_step h4 hj (by rw [hk]; exact hok); rw [hk, show 64 - x' - nodesD d k = 64 - x5 by rw [(hv hb).1]; omega, show 4096 - y' - bytesD d k = 4096 - y5 by rw [(hv hb).2]; omega] at hs; have := hok.2.1; have := hok.2.2; have := hv hb; exact ⟨h1, zk12, zk12, hs⟩
 ·intro hb; exact kids_bad h4 hj (by rw [hk]; intro c; rw [hiff.2 c] at hb; cases hb)
theorem k_end {d j : Nat} (h : KRel d m x y j x' y' bad) (hx : x ≤ 64) (hy : y ≤ 4096) (hj : bad = false → m.f4.length ≤ j) (hs : LS w0 sb gb m A3 c3 A4 c4 x' y' bad w) : LookPost (d + 1) x y m sb w0 (.returned (.tuple #[])) w := by
 refine ⟨x', y', bad, rfl, ⟨fun hb => ?_, fun hc => ?_⟩, fun hb => ?_, hs.room, hs.bel, hs.far⟩
 ·obtain ⟨h1, h2, h3, h4⟩ := h.1 hb; exact (kids_end h4 (hj hb)).1
 ·cases bad
  ·rfl
  ·exact absurd hc (h.2 rfl)
 ·obtain ⟨h1, h2, h3, h4⟩ := h.1 hb; obtain ⟨e1, e2, e3⟩ := kids_end h4 (hj hb); have := e1.2.1; have := e1.2.2; omega
end
end Go.Proofs.Ytlkhdbfhnpbbhaa
