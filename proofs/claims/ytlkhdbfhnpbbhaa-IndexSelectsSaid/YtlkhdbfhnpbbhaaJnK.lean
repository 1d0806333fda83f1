/- Tactic rows that come often below, each laid once as a theorem with an automatic argument: whatever is to be shown, it is shown so. Conditions: none. -/
import Derived.Shelf.Strings.Builder1
import Derived.Shelf.Strings.Builder2
import Derived.Shelf.Strings.OnBuilder
import Derived.Shelf.Small.Bits
import Derived.Shelf.Strings.BuilderF
import Derived.Shelf.Strings.BuilderK
import Derived.Shelf.Strings.Builder2Cap
import Derived.Shelf.Strconv.Itoa0
import Derived.Shelf.Strings.BuilderCap
import Derived.Test.YtlkhdbfhnpbbhaaProg
import Derived.Laws.Strings
import Derived.WalkKit
import Derived.Below
import Derived.Deep.Draws
import Derived.Deep.AppendLies
import Derived.Maps.AppendAt
import Derived.OwnWalk
import Derived.Laws.BytesArg
import Derived.Laws.MakeOwn
import Derived.Laws.OwnMore
import Derived.Deep.OwnRows
import Derived.Tactics
import Derived.Lib.ConvBytes
import Derived.Laws.Slices
import Derived.KernelRfl
import Derived.RowKit3
import Derived.Deep.LoopGhost
import Derived.Deep.QuietTactic
import Derived.BigQuiet
import Derived.WideLaws
import Derived.Deep.DeepCutAuto
import Derived.Deep.CutBlock
import Derived.Deep.RegionHeld3
import Derived.Laws.Rows
import Derived.Lib.AppendStr
import Derived.ArgAppend
import Derived.Laws.IdiomCopy
import Derived.RowKit
import Derived.OrdersHeld
import Derived.Laws.BitsLemmas
import Derived.Laws.StructEq
import Derived.Test.YtlkhdbfhnpbbhaaRows
import Derived.RangeFuncNested
import Derived.RangeFuncBound
import Derived.RangeFuncCalls
import Derived.RangeFuncLeaves
import Derived.LoopNIn
import Derived.Scope
import Derived.Shelf.Abstract
import Derived.Shelf.RegionOpen
import Derived.OwnWalkIn
import Derived.TacticsInMore
import Derived.LoopIn
import Derived.OneCell
import Derived.Lib.Hide
import Derived.RangeFuncBox
import Derived.Maps.OwnSet
import Derived.Maps.OwnOps
import Derived.Maps.Views
import Derived.StringKeys
import Derived.WalkMore
import Derived.SizedLaws
import Derived.ChangeArms
import Derived.Deep.Slices
import Derived.ProofKit
import Derived.Sort.OwnSorted
import Derived.Sort.Walk0
import Derived.StillTailTactics
namespace Go.Proofs
theorem zk1 {P : Prop} (h : P := by repeat (first | (with_reducible first | exact HB.out | apply below_alloc | apply pw_below_drewN | apply below_drew1) | exact HB.out)) : P := h
theorem zk2 {P : Prop} (h : P := by first | (with_reducible assumption) | assumption) : P := h
theorem zk3 {P : Prop} (h : P := by kernel_rfl) : P := h
theorem zk4 {P : Prop} (h : P := by first | rfl | (simp [errW_none, errW_some] <;> rfl) | (simp [*, errW_none, errW_some] <;> rfl)) : P := h
theorem zk5 {P : Prop} (h : P := by (try simp only [List.map_toArray, List.map_cons, List.map_nil]); first | done | rfl | (simp only [List.length_drop, List.length_take]; rfl)) : P := h
theorem zk6 {P : Prop} (h : P := by first | rfl | (simp; done) | (simp [*]; done)) : P := h
theorem zk7 {P : Prop} (h : P := by repeat (first | exact Drawn0.refl _ | apply Drawn0.step)) : P := h
theorem zk8 {P : Prop} (h : P := by repeat (first | (with_reducible first | exact HB.out | apply below_alloc | apply pw_below_drewN | apply below_drew1 | refine below_set ?_ GE109.out) | exact HB.out)) : P := h
theorem zk9 {P : Prop} (h : P := by first | (go_simp; done) | (go_simp; rfl)) : P := h
theorem zk10 {P : Prop} (h : P := by repeat (first | (with_reducible first | exact HB.out | apply below_alloc | apply pw_below_drewN | apply below_drew1 | refine below_set ?_ GE103.out) | exact HB.out)) : P := h
theorem zk11 {P : Prop} (h : P := by repeat (first | (with_reducible first | exact HB.out | apply below_alloc | apply pw_below_drewN | apply below_drew1 | refine below_set ?_ GE120.out) | exact HB.out)) : P := h
theorem zk12 {P : Prop} (h : P := by omega) : P := h
theorem zk13 {P : Prop} (h : P := by repeat (first | exact (Kd.C_below HR1.out HB.out) | (with_reducible refine Kd.C_alloc ?_ _) | (with_reducible refine Kd.C_drewN ?_ _) | (with_reducible refine Kd.C_drew ?_))) : P := h
theorem zk14 {P : Prop} (h : P := by (with_reducible repeat (first | refine blk_drewN ?_ _ | refine blk_drew ?_ | refine blk_alloc ?_ _)); refine blk_put (cs := #[.string ((rd_T41 l0 x15_2).f0), .string (⟨#[]⟩ : ByteArray)]) ?_ 1 _ rfl; (with_reducible repeat (first | refine blk_drewN ?_ _ | refine blk_drew ?_ | refine blk_alloc ?_ _)); refine blk_put (cs := #[.string (⟨#[]⟩ : ByteArray), .string (⟨#[]⟩ : ByteArray)]) ?_ 0 _ rfl; (with_reducible repeat (first | refine blk_drewN ?_ _ | refine blk_drew ?_ | refine blk_alloc ?_ _)); exact BK102.out) : P := h
theorem zk15 {P : Prop} (h : P := by (with_reducible repeat (first | refine blk_drewN ?_ _ | refine blk_drew ?_ | refine blk_alloc ?_ _)); refine blk_put (cs := #[.int .i64 ((rd_T54 l0_4 x65_1).f0), .string ((rd_T54 l0_4 x65_1).f1), .string ((rd_T54 l0_4 x65_1).f2), .slice A115_3 ((rd_T54 l0_4 x65_1).f3).length c115_3, .slice none 0 0]) ?_ 4 _ rfl; (with_reducible repeat (first | refine blk_drewN ?_ _ | refine blk_drew ?_ | refine blk_alloc ?_ _)); refine blk_put (cs := #[.int .i64 ((rd_T54 l0_4 x65_1).f0), .string ((rd_T54 l0_4 x65_1).f1), .string ((rd_T54 l0_4 x65_1).f2), .slice none 0 0, .slice none 0 0]) ?_ 3 _ rfl; (with_reducible repeat (first | refine blk_drewN ?_ _ | refine blk_drew ?_ | refine blk_alloc ?_ _)); refine blk_put (cs := #[.int .i64 ((rd_T54 l0_4 x65_1).f0), .string ((rd_T54 l0_4 x65_1).f1), .string (⟨#[]⟩ : ByteArray), .slice none 0 0, .slice none 0 0]) ?_ 2 _ rfl; (with_reducible repeat (first | refine blk_drewN ?_ _ | refine blk_drew ?_ | refine blk_alloc ?_ _)); refine blk_put (cs := #[.int .i64 ((rd_T54 l0_4 x65_1).f0), .string (⟨#[]⟩ : ByteArray), .string (⟨#[]⟩ : ByteArray), .slice none 0 0, .slice none 0 0]) ?_ 1 _ rfl; (with_reducible repeat (first | refine blk_drewN ?_ _ | refine blk_drew ?_ | refine blk_alloc ?_ _)); refine blk_put (cs := #[.int .i64 0, .string (⟨#[]⟩ : ByteArray), .string (⟨#[]⟩ : ByteArray), .slice none 0 0, .slice none 0 0]) ?_ 0 _ rfl; (with_reducible repeat (first | refine blk_drewN ?_ _ | refine blk_drew ?_ | refine blk_alloc ?_ _)); exact BK116.out) : P := h
theorem zk16 {P : Prop} (h : P := by rfl) : P := h
theorem zk17 {P : Prop} (h : P := by (with_reducible repeat (first | refine blk_drewN ?_ _ | refine blk_drew ?_ | refine blk_alloc ?_ _)); exact BK109.out) : P := h
theorem zk18 {P : Prop} (h : P := by repeat (first | (with_reducible first | exact HB.out | apply below_alloc | apply pw_below_drewN | apply below_drew1 | refine below_set ?_ GE102.out) | exact HB.out)) : P := h
theorem zk19 {P : Prop} (h : P := by repeat (first | (with_reducible first | exact HB.out | apply below_alloc | apply pw_below_drewN | apply below_drew1 | refine below_set ?_ GE127.out) | exact HB.out)) : P := h
theorem zk20 {P : Prop} (h : P := by repeat (first | (with_reducible first | exact HB.out | apply below_alloc | apply pw_below_drewN | apply below_drew1 | refine below_set ?_ GE109.out | refine below_set ?_ GE116.out) | exact HB.out)) : P := h
theorem zk21 {P : Prop} (h : P := by (with_reducible repeat (first | refine blk_drewN ?_ _ | refine blk_drew ?_ | refine blk_alloc ?_ _)); refine blk_far ?_ NB109_116.out _; (with_reducible repeat (first | refine blk_drewN ?_ _ | refine blk_drew ?_ | refine blk_alloc ?_ _)); refine blk_far ?_ NB109_116.out _; (with_reducible repeat (first | refine blk_drewN ?_ _ | refine blk_drew ?_ | refine blk_alloc ?_ _)); refine blk_far ?_ NB109_116.out _; (with_reducible repeat (first | refine blk_drewN ?_ _ | refine blk_drew ?_ | refine blk_alloc ?_ _)); refine blk_far ?_ NB109_116.out _; (with_reducible repeat (first | refine blk_drewN ?_ _ | refine blk_drew ?_ | refine blk_alloc ?_ _)); refine blk_far ?_ NB109_116.out _; (with_reducible repeat (first | refine blk_drewN ?_ _ | refine blk_drew ?_ | refine blk_alloc ?_ _)); exact BK109.out) : P := h
theorem zk22 {P : Prop} (h : P := by (with_reducible repeat (first | apply Kd.R_alloc | apply Kd.R_drewN | apply Kd.R_drew)); exact HO_3.out) : P := h
theorem zk23 {P : Prop} (h : P := by rw [if_neg (show ¬ (false = true) by decide)] at H; exact H) : P := h
theorem zk24 {P : Prop} (h : P := by (with_reducible repeat (first | refine blk_drewN ?_ _ | refine blk_drew ?_ | refine blk_alloc ?_ _)); exact BK103.out) : P := h
theorem zk25 {P : Prop} (h : P := by (with_reducible repeat (first | refine blk_drewN ?_ _ | refine blk_drew ?_ | refine blk_alloc ?_ _)); exact BK120.out) : P := h
theorem zk26 {P : Prop} (h : P := by exact (below_size (by repeat (first | (with_reducible first | exact HB.out | apply below_alloc | apply pw_below_drewN | apply below_drew1) | exact HB.out)))) : P := h
theorem zk27 {P : Prop} (h : P := by exact (by repeat (first | (with_reducible first | exact HB.out | apply below_alloc | apply pw_below_drewN | apply below_drew1) | exact HB.out))) : P := h
theorem zk28 {P : Prop} (h : P := by repeat (first | (with_reducible first | exact HB.out | apply below_alloc | apply pw_below_drewN | apply below_drew1 | refine below_set ?_ GE130.out) | exact HB.out)) : P := h
theorem zk29 {P : Prop} (h : P := by rw [if_pos rfl] at H; exact H) : P := h
theorem zk30 {P : Prop} (h : P := by simp) : P := h
theorem zk31 {P : Prop} (h : P := by first | omega | exact Nat.le_refl _) : P := h
theorem zk32 {P : Prop} (h : P := by have := HJ1.out; have := HK2.out; omega) : P := h
theorem zk33 {P : Prop} (h : P := by exact Kd.C_below HR115_3.out (by repeat (first | (with_reducible first | exact HB.out | apply below_alloc | apply pw_below_drewN | apply below_drew1 | refine below_set ?_ GE109.out | refine below_set ?_ GE116.out) | exact HB.out))) : P := h
theorem zk34 {P : Prop} (h : P := by exact Kd.C_below HR115_4.out (by repeat (first | (with_reducible first | exact HB.out | apply below_alloc | apply pw_below_drewN | apply below_drew1 | refine below_set ?_ GE109.out | refine below_set ?_ GE116.out) | exact HB.out))) : P := h
theorem zk35 {P : Prop} (h : P := by repeat (first | exact HR0.out | (with_reducible refine Kd.C_alloc ?_ _) | (with_reducible refine Kd.C_drewN ?_ _) | (with_reducible refine Kd.C_drew ?_))) : P := h
theorem zk36 {P : Prop} (h : P := by exact Kd.C_below HR1.out (by repeat (first | (with_reducible first | exact HB.out | apply below_alloc | apply pw_below_drewN | apply below_drew1 | refine below_set ?_ GE109.out | refine below_set ?_ GE116.out) | exact HB.out))) : P := h
theorem zk37 {P : Prop} (h : P := by exact (by (with_reducible repeat (first | apply Kd.R_alloc | apply Kd.R_drewN | apply Kd.R_drew)); exact Kd.R_mono HO_3.out (fun _ hk => hk.2))) : P := h
theorem zk38 {P : Prop} (h : P := by (try simp only [List.map_toArray, List.map_cons, List.map_nil]); first | done | rfl) : P := h
theorem zk39 {P : Prop} (h : P := by (with_reducible repeat (first | apply Kd.R_alloc | apply Kd.R_drewN | apply Kd.R_drew)); exact Kd.R_mono HO_3.out (fun _ hk => hk.2)) : P := h
theorem zk40 {P : Prop} (h : P := by decide) : P := h
theorem zk41 {P : Prop} (h : P := by rw [HW7.out, HW6.out]; exact put5_far ((Far.of_below (f := fun k => k = gb ∨ k = rb) (Below.refl _ _)).setCell (f := fun k => k = gb ∨ k = rb) (p := ⟨gb, 4, none⟩) (Or.inl rfl) _) (Or.inr rfl)) : P := h
theorem zk42 {P : Prop} (h : P := by have := HK1.out; omega) : P := h
theorem zk43 {P : Prop} (h : P := by rw [← hq_]; exact (by repeat (first | (with_reducible first | exact HB.out | apply below_alloc | apply pw_below_drewN | apply below_drew1 | refine below_set ?_ GE120.out) | exact HB.out))) : P := h
theorem zk44 {P : Prop} (h : P := by repeat (first | exact (Kd.C_below HR123_3.out HB.out) | (with_reducible refine Kd.C_alloc ?_ _) | (with_reducible refine Kd.C_drewN ?_ _) | (with_reducible refine Kd.C_drew ?_))) : P := h
theorem zk45 {P : Prop} (h : P := by repeat (first | exact (Kd.C_below HR123_4.out HB.out) | (with_reducible refine Kd.C_alloc ?_ _) | (with_reducible refine Kd.C_drewN ?_ _) | (with_reducible refine Kd.C_drew ?_))) : P := h
theorem zk46 {P : Prop} (h : P := by have : (0 : Int) < (a0.size : Int) := of_decide_eq_true (by first | (with_reducible assumption) | assumption); omega) : P := h
theorem zk47 {P : Prop} (h : P := by rw [List.getD_eq_getElem?_getD, List.getElem?_eq_getElem hlt]; exact List.getElem_mem _) : P := h
theorem zk48 {P : Prop} (h : P := by rw [HW4.out]; exact R_other HR3.out ((Far.of_below (f := fun k => k = gb) (Below.refl _ _)).setCell (f := fun k => k = gb) (p := ⟨gb, 3, none⟩) rfl _) (fun k a c => by omega)) : P := h
theorem zk49 {P : Prop} (h : P := by exact (by (with_reducible repeat (first | apply Kd.R_alloc | apply Kd.R_drewN | apply Kd.R_drew)); exact HO_3.out)) : P := h
theorem zk50 {P : Prop} (h : P := by repeat (first | (with_reducible first | exact HB.out | apply below_alloc | apply pw_below_drewN | apply below_drew1 | refine below_set ?_ GE133.out) | exact HB.out)) : P := h
theorem zk51 {P : Prop} (h : P := by simp; omega) : P := h
theorem zk52 {P : Prop} (h : P := by rw [← hq_]; exact (by (with_reducible repeat (first | refine blk_drewN ?_ _ | refine blk_drew ?_ | refine blk_alloc ?_ _)); exact BK120.out)) : P := h
theorem zk53 {P : Prop} (h : P := by rw [HW4.out]; exact (HB2.out.trans (HB3.out.mono HB2.out.size)).setCell (p := ⟨gb, 3, none⟩) (by rw [HG.out]; exact Nat.le_refl _) _) : P := h
theorem zk54 {P : Prop} (h : P := by rw [HW4.out]; exact (Below.heap_setCell _ ⟨gb, 3, none⟩ _ rb (fun c => hgr c.symm)).trans ((HB3.out.block rb hrb).trans HRES.out)) : P := h
theorem zk55 {P : Prop} (h : P := by rw [beq_eq_false_iff_ne]; omega) : P := h
theorem zk56 {P : Prop} (h : P := by (with_reducible repeat (first | refine blk_drewN ?_ _ | refine blk_drew ?_ | refine blk_alloc ?_ _)); exact BK130.out) : P := h
theorem zk57 {P : Prop} (h : P := by simpa using World.news_of_block (cs := ys.toArray) (t := e) (fr := (0, 0)) (heap_alloc_new W (.cells ys.toArray e))) : P := h
theorem zk58 {P : Prop} (h : P := by repeat (first | exact HC2.out | (with_reducible refine Kd.C_drewN ?_ _) | (with_reducible refine Kd.C_drew ?_))) : P := h
theorem zk59 {P : Prop} (h : P := by rw [HG.out]; have := HNW.out; omega) : P := h
theorem zk60 {P : Prop} (h : P := by have := HK1.out; first | omega | exact Nat.le_refl _) : P := h
theorem zk61 {P : Prop} (h : P := by (with_reducible repeat (first | apply Kd.R_alloc | apply Kd.R_drewN | apply Kd.R_drew)); exact HO113.out) : P := h
theorem zk62 {P : Prop} (h : P := by (with_reducible repeat (first | apply Kd.R_alloc | apply Kd.R_drewN | apply Kd.R_drew)); exact HO119.out) : P := h
theorem zk63 {P : Prop} (h : P := by (with_reducible repeat (first | apply Kd.R_alloc | apply Kd.R_drewN | apply Kd.R_drew)); exact HO125.out) : P := h
theorem zk64 {P : Prop} (h : P := by rw [HW2.out]; exact (HB1.out.mono (Nat.le_of_lt HNW.out)).setCell (p := ⟨nb, 0, none⟩) (Nat.le_refl _) _) : P := h
theorem zk65 {P : Prop} (h : P := by rw [HW2.out]; exact (HB1.out.mono (Nat.le_of_lt HNW.out)).setCell (p := ⟨rb, 0, none⟩) (Nat.le_refl _) _) : P := h
theorem zk66 {P : Prop} (h : P := by have := HJ1.out; have := HJ9.out; first | omega | exact Nat.le_refl _) : P := h
theorem zk67 {P : Prop} (h : P := by rw [HW2.out]; exact (Far.of_below (f := fun k => k = nb) HB1.out).setCell (p := ⟨nb, 0, none⟩) rfl _) : P := h
theorem zk68 {P : Prop} (h : P := by rw [HW2.out]; exact (Far.of_below (f := fun k => k = rb) HB1.out).setCell (p := ⟨rb, 0, none⟩) rfl _) : P := h
theorem zk69 {P : Prop} (h : P := by rw [hw6]; exact (Below.heap_setCell _ ⟨gb, 4, none⟩ _ rb (fun c => HNE.out c.symm)).trans HRES5.out) : P := h
theorem zk70 {P : Prop} (h : P := by have := HX3.out; have := HX1.out; omega) : P := h
theorem zk71 {P : Prop} (h : P := by first | simpa using c3 | (simp at c3 ⊢; omega)) : P := h
theorem zk72 {P : Prop} (h : P := by rw [HW7.out, HW6.out]; exact put5_below (HB5.out.setCell (p := ⟨gb, 4, none⟩) hgw _) hrw) : P := h
theorem zk73 {P : Prop} (h : P := by have := HJ1.out; have := HJ9.out; have := HJ19.out; first | omega | exact Nat.le_refl _) : P := h
theorem zk74 {P : Prop} (h : P := by rw [HW2.out]; exact blk_put HN1.out 0 _ rfl) : P := h
theorem zk75 {P : Prop} (h : P := by first | exact HWM.out.n | exact HWM.out.v | exact HVZ.out) : P := h
theorem zk76 {P : Prop} (h : P := by rw [HW2.out]; exact (Below.heap_setCell _ ⟨nb, 0, none⟩ _ gb hgn).trans HBOX.out) : P := h
theorem zk77 {P : Prop} (h : P := by rw [HW2.out]; exact (Below.heap_setCell _ ⟨rb, 0, none⟩ _ gb hgn).trans HBOX.out) : P := h
theorem zk78 {P : Prop} (h : P := by have := HK1.out; have := HJ7.out; omega) : P := h
theorem zk79 {P : Prop} (h : P := by exact (fun _ _ => trivial)) : P := h
theorem zk80 {P : Prop} (h : P := by have := HJ1.out; first | omega | exact Nat.le_refl _) : P := h
theorem zk81 {P : Prop} (h : P := by simp only [maxLen]; omega) : P := h
theorem zk82 {P : Prop} (h : P := by simp [Value.ownBlock]) : P := h
theorem zk83 {P : Prop} (h : P := by first | exact hy | exact txY_le hy | assumption) : P := h
theorem zk84 {P : Prop} (h : P := by rw [HG.out]; exact Nat.le_refl _) : P := h
theorem zk85 {P : Prop} (h : P := by exact ((Kd.R_nil _ _ _ _ (fun _ => True)))) : P := h
theorem zk86 {P : Prop} (h : P := by have := HJ31.out; have := HK2.out; omega) : P := h
theorem zk87 {P : Prop} (h : P := by have := HS60.out; omega) : P := h
theorem zk88 {P : Prop} (h : P := by rw [List.length_drop]; omega) : P := h
theorem zk89 {P : Prop} (h : P := by go_simp; rfl) : P := h
theorem zk90 {P : Prop} (h : P := by simpa using c50) : P := h
theorem zk91 {P : Prop} (h : P := by simpa using c40) : P := h
theorem zk92 {P : Prop} (h : P := by injection e137) : P := h
theorem zk93 {P : Prop} (h : P := by injection e138) : P := h
theorem zk94 {P : Prop} (h : P := by simp only [Act.put, List.setIfInBounds_toArray, List.set_cons_zero, List.set_cons_succ, i64_w, i32_w]; rfl) : P := h
theorem zk95 {P : Prop} (h : P := by intro w'; go_simp; (with_reducible rfl)) : P := h
theorem zk96 {P : Prop} (h : P := by rintro w' ⟨s0, s1, s2, s3, s4, s5, s6, s7, s8, s9⟩; go_simp; (with_reducible rfl)) : P := h
theorem zk97 {P : Prop} (h : P := by show Act.put _ (some 22) _ = _; simp only [Act.put, List.setIfInBounds_toArray, List.set_cons_zero, List.set_cons_succ, i64_w, i32_w]; rfl) : P := h
theorem zk98 {P : Prop} (h : P := by show Act.put _ (some 15) _ = _; simp only [Act.put, List.setIfInBounds_toArray, List.set_cons_zero, List.set_cons_succ, i64_w, i32_w]; rfl) : P := h
theorem zk99 {P : Prop} (h : P := by have := hs ((((List.range len).map D).length + ((List.range (m - len)).map fun j => D (len + j)).length) * P.bytesOf e) (by rw [DataW.weights, ht]; exact List.mem_cons_self ..); rw [hB, List.length_map, List.length_range, List.length_map, List.length_range] at this; rw [h1]; refine Nat.le_trans (Nat.mul_le_mul_right B (Nat.le_add_right len _)) this) : P := h
theorem zk100 {P : Prop} (h : P := by rintro w' ⟨s0, s1, s2, s3⟩; go_simp; (with_reducible rfl)) : P := h
theorem zk101 {P : Prop} (h : P := by rintro w' ⟨s0, s1⟩; go_simp; (with_reducible rfl)) : P := h
theorem zk102 {P : Prop} (h : P := by show Act.put _ (some 45) _ = _; simp only [Act.put, List.setIfInBounds_toArray, List.set_cons_zero, List.set_cons_succ, i64_w, i32_w]; rfl) : P := h
theorem zk103 {P : Prop} (h : P := by show Act.put _ (some 20) _ = _; simp only [Act.put, List.setIfInBounds_toArray, List.set_cons_zero, List.set_cons_succ, i64_w, i32_w]; rfl) : P := h
theorem zk104 {P : Prop} (h : P := by rw [if_neg zk12, if_neg zk12]; exact kids_l1 l _ m.f4 (fun k => evalD d k l) (l.length + 20 + d * 80) zk12 (fun j hj k hk => eval_eq l hl d _ _ _ (okL_get hkids hj) zk12 k hk) m.f4.length 0 k zk12 zk12) : P := h
theorem zk105 {P : Prop} (h : P := by rintro w' ⟨s0, s1, s2, s3, s4, s5⟩; go_simp; (with_reducible rfl)) : P := h
theorem zk106 {P : Prop} (h : P := by have h2 := World.ownsRow_lit (base := base) (e := e) (size := d.sz) W inner.toArray xs.length hbase (by simpa [maxLen] using hm) (by simpa using hrep.1); simpa using h2) : P := h
theorem zk107 {P : Prop} (h : P := by rw [if_neg c5] at H; exact absurd H zk30) : P := h
theorem zk108 {P : Prop} (h : P := by rw [if_neg c6] at H; exact absurd H zk30) : P := h
theorem zk109 {P : Prop} (h : P := by show Act.put _ (some 44) _ = _; simp only [Act.put, List.setIfInBounds_toArray, List.set_cons_zero, List.set_cons_succ, i64_w, i32_w]; rfl) : P := h
theorem zk110 {P : Prop} (h : P := by show Act.put _ (some 78) _ = _; simp only [Act.put, List.setIfInBounds_toArray, List.set_cons_zero, List.set_cons_succ, i64_w, i32_w]; rfl) : P := h
theorem zk111 {P : Prop} (h : P := by show Act.put _ (some 21) _ = _; simp only [Act.put, List.setIfInBounds_toArray, List.set_cons_zero, List.set_cons_succ, i64_w, i32_w]; rfl) : P := h
theorem zk112 {P : Prop} (h : P := by show Act.put _ (some 19) _ = _; simp only [Act.put, List.setIfInBounds_toArray, List.set_cons_zero, List.set_cons_succ, i64_w, i32_w]; rfl) : P := h
theorem zk113 {P : Prop} (h : P := by rintro w' ⟨s0, s1, s2, s3, s4⟩; go_simp; (with_reducible rfl)) : P := h
theorem zk114 {P : Prop} (h : P := by rw [if_pos zk12, decide_eq_true h3, show ((m.f4.length : Int) == 0) = decide (m.f4.length = 0) from len_beq _ 0]; rfl) : P := h
theorem zk115 {P : Prop} (h : P := by rw [List.length_set]; simp only [List.length_append, List.length_take, List.length_drop]; rw [hr.1] at hseg ⊢; omega) : P := h
theorem zk116 {P : Prop} (h : P := by simp [Builtin.append_, run_underlying ht, sizeOf, typeInfo, hi, Builtin.lenOf, Builtin.firstCells, hnc, storeCells]) : P := h
theorem zk117 {P : Prop} (h : P := by rintro w' ⟨s0_, s1_⟩; go_simp; (with_reducible rfl)) : P := h
theorem zk118 {P : Prop} (h : P := by rw [if_pos h2, if_neg zk12, if_pos zk12]; simp [h0, show ¬ c ≤ 122 by omega, show ¬ c ≤ 57 by omega]) : P := h
theorem zk119 {P : Prop} (h : P := by simp [Builtin.append_, run_underlying ht, sizeOf, typeInfo, hi, Builtin.lenOf, Builtin.firstCells]) : P := h
theorem zk120 {P : Prop} (h : P := by obtain ⟨i, hi'⟩ := List.mem_iff_getElem?.1 hy; obtain ⟨_, _, _, h5⟩ := h2 i y hi'; exact h5) : P := h
theorem zk121 {P : Prop} (h : P := by intro w' s0_; go_simp; (with_reducible rfl)) : P := h
theorem zk122 {P : Prop} (h : P := by subst hji; exact (hy.yieldsIf (S := fun _ => True)).wpOp hi trivial ⟨fun _ h => h, H⟩) : P := h
theorem zk123 {P : Prop} (h : P := by rw [if_neg c11] at H; exact absurd H zk30) : P := h
theorem zk124 {P : Prop} (h : P := by intro w' _; go_simp; (with_reducible rfl)) : P := h
theorem zk125 {P : Prop} (h : P := by rw [if_neg c7] at H; exact absurd H zk30) : P := h
theorem zk126 {P : Prop} (h : P := by rw [if_neg c4] at H; exact absurd H zk30) : P := h
theorem zk127 {P : Prop} (h : P := by rw [if_neg c3] at H; exact absurd H zk30) : P := h
theorem zk128 {P : Prop} (h : P := by exact ⟨zk6, zk7⟩) : P := h
theorem zk129 {P : Prop} (h : P := by exact ⟨zk4, zk19⟩) : P := h
theorem zk130 {P : Prop} (h : P := by exact (chk_fine (HX.out.good _ this)).2.1) : P := h
end Go.Proofs
