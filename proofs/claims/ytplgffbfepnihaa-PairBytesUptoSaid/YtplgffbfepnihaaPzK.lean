/- Tactic rows that come often below, each laid once as a theorem with an automatic argument: whatever is to be shown, it is shown so. Conditions: none. -/
import Derived.Shelf.Small.Bits
import Derived.Shelf.Strconv.Itoa0
import Derived.Shelf.Bits.Mul64
import Derived.Test.YtplgffbfepnihaaProg
import Derived.Below
import Derived.Deep.Draws
import Derived.Deep.AppendLies
import Derived.Maps.AppendAt
import Derived.OwnWalk
import Derived.Laws.BytesArg
import Derived.Laws.MakeOwn
import Derived.Laws.OwnMore
import Derived.Deep.OwnRows
import Derived.Tactics
import Derived.Lib.ConvBytes
import Derived.Laws.Slices
import Derived.WalkKit
import Derived.KernelRfl
import Derived.RowKit3
import Derived.Deep.LoopGhost
import Derived.Deep.QuietTactic
import Derived.BigQuiet
import Derived.WideLaws
import Derived.Deep.DeepCutAuto
import Derived.Deep.CutBlock
import Derived.Deep.RegionHeld3
import Derived.Laws.Rows
import Derived.Lib.AppendStr
import Derived.ArgAppend
import Derived.Laws.IdiomCopy
import Derived.RowKit
import Derived.OrdersHeld
import Derived.Laws.BitsLemmas
import Derived.Laws.StructEq
import Derived.Laws.Bits64b
import Derived.WalkSpells
import Derived.WalkLawsBesides
import Derived.Laws.Externs
import Derived.DataShut
import Derived.Lib.Hide
import Derived.Lib.SliceRun
import Derived.StillTailTactics
import Derived.Test.YtplgffbfepnihaaRows
import Derived.SizedLaws
import Derived.ChangeArms
import Derived.Deep.Slices
import Derived.ProofKit
import Derived.Sort.AssemblyPlain
import Derived.Sort.WalkA
import Derived.Sort.WalkB3
import Derived.Sort.WalkB12
import Derived.Outline
import Derived.Sort.WalkA6
import Derived.Sort.WalkC4
import Derived.Sort.Walk7a
import Derived.Sort.LotD2
import Derived.Sort.LotD3
import Derived.Sort.LotB
import Derived.Sort.LotC
import Derived.Maps.RangeWalk
import Derived.Maps.OwnSet
import Derived.Maps.OwnOps
import Derived.Maps.Views
import Derived.WalkMore
import Derived.StillTail
import Derived.Deep.RegionLawGrows
namespace Go.Proofs
theorem zk1 {P : Prop} (h : P := by repeat (first | (with_reducible first | exact HB.out | apply below_alloc | apply pw_below_drewN | apply below_drew1) | exact HB.out)) : P := h
theorem zk2 {P : Prop} (h : P := by (try simp only [List.map_toArray, List.map_cons, List.map_nil]); first | done | rfl | (simp only [List.length_drop, List.length_take]; rfl)) : P := h
theorem zk3 {P : Prop} (h : P := by repeat (first | (with_reducible first | exact HB.out | apply below_alloc | apply pw_below_drewN | apply below_drew1 | refine below_set ?_ (IsS29.ge HI0.out)) | exact HB.out)) : P := h
theorem zk4 {P : Prop} (h : P := by repeat (first | (with_reducible first | exact HI0.out | apply IsS29.alloc | apply IsS29.drewN | apply IsS29.drew | apply IsS29.set_1 | apply IsS29.set_2) | exact HI0.out)) : P := h
theorem zk5 {P : Prop} (h : P := by repeat (first | (with_reducible first | exact HK.out | apply KeepBut.set_ | apply keep_drewN | apply keep_drew | apply keep_alloc) | exact HK.out)) : P := h
theorem zk6 {P : Prop} (h : P := by omega) : P := h
theorem zk7 {P : Prop} (h : P := by first | rfl | (simp [errW_none, errW_some] <;> rfl) | (simp [*, errW_none, errW_some] <;> rfl)) : P := h
theorem zk8 {P : Prop} (h : P := by first | (with_reducible assumption) | assumption) : P := h
theorem zk9 {P : Prop} (h : P := by (with_reducible repeat (first | refine blk_drewN ?_ _ | refine blk_drew ?_ | refine blk_alloc ?_ _)); refine blk_put (cs := #[.slice none 0 0, .slice none 0 0, .int .u64 0, .int .u64 0, .int .u64 0, .int .u64 0]) ?_ 5 _ rfl; (with_reducible repeat (first | refine blk_drewN ?_ _ | refine blk_drew ?_ | refine blk_alloc ?_ _)); refine blk_put (cs := #[.slice none 0 0, .slice none 0 0, .int .u64 0, .int .u64 0, .int .u64 0, .int .u64 0]) ?_ 4 _ rfl; (with_reducible repeat (first | refine blk_drewN ?_ _ | refine blk_drew ?_ | refine blk_alloc ?_ _)); refine blk_put (cs := #[.slice none 0 0, .slice none 0 0, .int .u64 0, .int .u64 0, .int .u64 0, .int .u64 0]) ?_ 3 _ rfl; (with_reducible repeat (first | refine blk_drewN ?_ _ | refine blk_drew ?_ | refine blk_alloc ?_ _)); refine blk_put (cs := #[.slice none 0 0, .slice none 0 0, .int .u64 0, .int .u64 0, .int .u64 0, .int .u64 0]) ?_ 2 _ rfl; (with_reducible repeat (first | refine blk_drewN ?_ _ | refine blk_drew ?_ | refine blk_alloc ?_ _)); refine blk_put (cs := #[.slice none 0 0, .slice none 0 0, .int .u64 0, .int .u64 0, .int .u64 0, .int .u64 0]) ?_ 1 _ rfl; (with_reducible repeat (first | refine blk_drewN ?_ _ | refine blk_drew ?_ | refine blk_alloc ?_ _)); refine blk_put (cs := #[.slice none 0 0, .slice none 0 0, .int .u64 0, .int .u64 0, .int .u64 0, .int .u64 0]) ?_ 0 _ rfl; (with_reducible repeat (first | refine blk_drewN ?_ _ | refine blk_drew ?_ | refine blk_alloc ?_ _)); exact BK158.out) : P := h
theorem zk10 {P : Prop} (h : P := by repeat (first | (with_reducible first | exact HB.out | apply below_alloc | apply pw_below_drewN | apply below_drew1 | refine below_set ?_ GE157.out | refine below_set ?_ GE158.out) | exact HB.out)) : P := h
theorem zk11 {P : Prop} (h : P := by kernel_rfl) : P := h
theorem zk12 {P : Prop} (h : P := by repeat (first | (with_reducible first | exact HB.out | apply below_alloc | apply pw_below_drewN | apply below_drew1 | refine below_set ?_ GE136.out) | exact HB.out)) : P := h
theorem zk13 {P : Prop} (h : P := by repeat (first | (with_reducible first | exact HB.out | apply below_alloc | apply pw_below_drewN | apply below_drew1 | refine below_set ?_ (IsS29.ge HI0.out) | refine below_set ?_ GE329.out | refine below_set ?_ GE330.out) | exact HB.out)) : P := h
theorem zk14 {P : Prop} (h : P := by first | rfl | (simp; done) | (simp [*]; done)) : P := h
theorem zk15 {P : Prop} (h : P := by repeat (first | (with_reducible first | exact HI0.out | apply IsS29.alloc | apply IsS29.drewN | apply IsS29.drew | apply IsS29.set_1 | apply IsS29.set_2 | apply IsS29.far (hne := NB0_329.out) | apply IsS29.far (hne := NB0_330.out)) | exact HI0.out)) : P := h
theorem zk16 {P : Prop} (h : P := by repeat (first | (with_reducible first | exact HK.out | apply KeepBut.set_ | apply keep_drewN | apply keep_drew | apply keep_alloc | refine keep_far ?_ GW329.out _ | refine keep_far ?_ GW330.out _) | exact HK.out)) : P := h
theorem zk17 {P : Prop} (h : P := by (with_reducible repeat (first | refine blk_drewN ?_ _ | refine blk_drew ?_ | refine blk_alloc ?_ _)); refine blk_far ?_ NB157_158.out _; (with_reducible repeat (first | refine blk_drewN ?_ _ | refine blk_drew ?_ | refine blk_alloc ?_ _)); refine blk_far ?_ NB157_158.out _; (with_reducible repeat (first | refine blk_drewN ?_ _ | refine blk_drew ?_ | refine blk_alloc ?_ _)); refine blk_far ?_ NB157_158.out _; (with_reducible repeat (first | refine blk_drewN ?_ _ | refine blk_drew ?_ | refine blk_alloc ?_ _)); refine blk_far ?_ NB157_158.out _; (with_reducible repeat (first | refine blk_drewN ?_ _ | refine blk_drew ?_ | refine blk_alloc ?_ _)); refine blk_far ?_ NB157_158.out _; (with_reducible repeat (first | refine blk_drewN ?_ _ | refine blk_drew ?_ | refine blk_alloc ?_ _)); refine blk_far ?_ NB157_158.out _; (with_reducible repeat (first | refine blk_drewN ?_ _ | refine blk_drew ?_ | refine blk_alloc ?_ _)); exact BK157.out) : P := h
theorem zk18 {P : Prop} (h : P := by repeat (first | (with_reducible first | exact HB.out | apply below_alloc | apply pw_below_drewN | apply below_drew1 | refine below_set ?_ GE276.out) | exact HB.out)) : P := h
theorem zk19 {P : Prop} (h : P := by (with_reducible repeat (first | refine blk_drewN ?_ _ | refine blk_drew ?_ | refine blk_alloc ?_ _)); refine blk_put (cs := #[.slice none 0 0, .slice none 0 0, .int .u64 0, .int .u64 0, .int .u64 0, .int .u64 0]) ?_ 5 _ rfl; (with_reducible repeat (first | refine blk_drewN ?_ _ | refine blk_drew ?_ | refine blk_alloc ?_ _)); refine blk_put (cs := #[.slice none 0 0, .slice none 0 0, .int .u64 0, .int .u64 0, .int .u64 0, .int .u64 0]) ?_ 4 _ rfl; (with_reducible repeat (first | refine blk_drewN ?_ _ | refine blk_drew ?_ | refine blk_alloc ?_ _)); refine blk_put (cs := #[.slice none 0 0, .slice none 0 0, .int .u64 0, .int .u64 0, .int .u64 0, .int .u64 0]) ?_ 3 _ rfl; (with_reducible repeat (first | refine blk_drewN ?_ _ | refine blk_drew ?_ | refine blk_alloc ?_ _)); refine blk_put (cs := #[.slice none 0 0, .slice none 0 0, .int .u64 0, .int .u64 0, .int .u64 0, .int .u64 0]) ?_ 2 _ rfl; (with_reducible repeat (first | refine blk_drewN ?_ _ | refine blk_drew ?_ | refine blk_alloc ?_ _)); refine blk_put (cs := #[.slice none 0 0, .slice none 0 0, .int .u64 0, .int .u64 0, .int .u64 0, .int .u64 0]) ?_ 1 _ rfl; (with_reducible repeat (first | refine blk_drewN ?_ _ | refine blk_drew ?_ | refine blk_alloc ?_ _)); refine blk_put (cs := #[.slice none 0 0, .slice none 0 0, .int .u64 0, .int .u64 0, .int .u64 0, .int .u64 0]) ?_ 0 _ rfl; (with_reducible repeat (first | refine blk_drewN ?_ _ | refine blk_drew ?_ | refine blk_alloc ?_ _)); refine blk_far ?_ NB157_158.out _; (with_reducible repeat (first | refine blk_drewN ?_ _ | refine blk_drew ?_ | refine blk_alloc ?_ _)); exact BK157.out) : P := h
theorem zk20 {P : Prop} (h : P := by (with_reducible repeat (first | refine blk_drewN ?_ _ | refine blk_drew ?_ | refine blk_alloc ?_ _)); refine blk_put (cs := #[.int .u64 0, .int .u64 0, .int .u64 0, .int .u64 0]) ?_ 3 _ rfl; (with_reducible repeat (first | refine blk_drewN ?_ _ | refine blk_drew ?_ | refine blk_alloc ?_ _)); refine blk_put (cs := #[.int .u64 0, .int .u64 0, .int .u64 0, .int .u64 0]) ?_ 2 _ rfl; (with_reducible repeat (first | refine blk_drewN ?_ _ | refine blk_drew ?_ | refine blk_alloc ?_ _)); refine blk_put (cs := #[.int .u64 0, .int .u64 0, .int .u64 0, .int .u64 0]) ?_ 1 _ rfl; (with_reducible repeat (first | refine blk_drewN ?_ _ | refine blk_drew ?_ | refine blk_alloc ?_ _)); refine blk_put (cs := #[.int .u64 0, .int .u64 0, .int .u64 0, .int .u64 0]) ?_ 0 _ rfl; (with_reducible repeat (first | refine blk_drewN ?_ _ | refine blk_drew ?_ | refine blk_alloc ?_ _)); refine blk_far ?_ NB329_0.out _; (with_reducible repeat (first | refine blk_drewN ?_ _ | refine blk_drew ?_ | refine blk_alloc ?_ _)); exact BK329.out) : P := h
theorem zk21 {P : Prop} (h : P := by repeat (first | exact Drawn0.refl _ | apply Drawn0.step)) : P := h
theorem zk22 {P : Prop} (h : P := by repeat (first | (with_reducible first | exact HK.out | apply KeepBut.set_ | apply keep_drewN | apply keep_drew | apply keep_alloc | refine keep_far ?_ GW234.out _ | refine keep_far ?_ GW235.out _) | exact HK.out)) : P := h
theorem zk23 {P : Prop} (h : P := by (with_reducible repeat (first | refine blk_drewN ?_ _ | refine blk_drew ?_)); refine blk_put (cs := #[.int .u64 p, .int .u64 q, .int .u64 a2, .int .u64 0]) ?_ 3 _ rfl; (with_reducible repeat (first | refine blk_drewN ?_ _ | refine blk_drew ?_)); refine blk_put (cs := #[.int .u64 p, .int .u64 q, .int .u64 0, .int .u64 0]) ?_ 2 _ rfl; (with_reducible repeat (first | refine blk_drewN ?_ _ | refine blk_drew ?_)); refine blk_put (cs := #[.int .u64 p, .int .u64 0, .int .u64 0, .int .u64 0]) ?_ 1 _ rfl; (with_reducible repeat (first | refine blk_drewN ?_ _ | refine blk_drew ?_)); refine blk_put (cs := #[.int .u64 0, .int .u64 0, .int .u64 0, .int .u64 0]) ?_ 0 _ rfl; repeat (first | (with_reducible exact HR.out) | (with_reducible refine blk_drewN ?_ _) | (with_reducible refine blk_drew ?_) | (with_reducible refine blk_far ?_ (by simp) _))) : P := h
theorem zk24 {P : Prop} (h : P := by (with_reducible repeat (first | refine blk_drewN ?_ _ | refine blk_drew ?_)); refine blk_put (cs := #[.int .u64 p, .int .u64 q, .int .u64 b2, .int .u64 0]) ?_ 3 _ rfl; (with_reducible repeat (first | refine blk_drewN ?_ _ | refine blk_drew ?_)); refine blk_put (cs := #[.int .u64 p, .int .u64 q, .int .u64 0, .int .u64 0]) ?_ 2 _ rfl; (with_reducible repeat (first | refine blk_drewN ?_ _ | refine blk_drew ?_)); refine blk_put (cs := #[.int .u64 p, .int .u64 0, .int .u64 0, .int .u64 0]) ?_ 1 _ rfl; (with_reducible repeat (first | refine blk_drewN ?_ _ | refine blk_drew ?_)); refine blk_put (cs := #[.int .u64 0, .int .u64 0, .int .u64 0, .int .u64 0]) ?_ 0 _ rfl; repeat (first | (with_reducible exact HR.out) | (with_reducible refine blk_drewN ?_ _) | (with_reducible refine blk_drew ?_) | (with_reducible refine blk_far ?_ (by simp) _))) : P := h
theorem zk25 {P : Prop} (h : P := by exact (below_size (by repeat (first | (with_reducible first | exact HB.out | apply below_alloc | apply pw_below_drewN | apply below_drew1) | exact HB.out)))) : P := h
theorem zk26 {P : Prop} (h : P := by first | (go_simp; done) | (go_simp; rfl)) : P := h
theorem zk27 {P : Prop} (h : P := by exact (by repeat (first | (with_reducible first | exact HB.out | apply below_alloc | apply pw_below_drewN | apply below_drew1) | exact HB.out))) : P := h
theorem zk28 {P : Prop} (h : P := by repeat (first | (with_reducible first | exact HB.out | apply below_alloc | apply pw_below_drewN | apply below_drew1 | refine below_set ?_ GE137.out | refine below_set ?_ GE138.out) | exact HB.out)) : P := h
theorem zk29 {P : Prop} (h : P := by exact Kd.C_below HR0.out (by repeat (first | (with_reducible first | exact HB.out | apply below_alloc | apply pw_below_drewN | apply below_drew1 | refine below_set ?_ GE157.out | refine below_set ?_ GE158.out) | exact HB.out))) : P := h
theorem zk30 {P : Prop} (h : P := by (with_reducible repeat (first | refine blk_drewN ?_ _ | refine blk_drew ?_ | refine blk_alloc ?_ _)); refine blk_far ?_ NB329_330.out _; (with_reducible repeat (first | refine blk_drewN ?_ _ | refine blk_drew ?_ | refine blk_alloc ?_ _)); exact BK329.out) : P := h
theorem zk31 {P : Prop} (h : P := by repeat (first | (with_reducible first | exact HI0.out | apply IsS29.alloc | apply IsS29.drewN | apply IsS29.drew | apply IsS29.set_1 | apply IsS29.set_2 | apply IsS29.far (hne := NB0_234.out) | apply IsS29.far (hne := NB0_235.out)) | exact HI0.out)) : P := h
theorem zk32 {P : Prop} (h : P := by repeat (first | (with_reducible first | exact HB.out | apply below_alloc | apply pw_below_drewN | apply below_drew1 | refine below_set ?_ GE157.out) | exact HB.out)) : P := h
theorem zk33 {P : Prop} (h : P := by repeat (first | (with_reducible first | exact HB.out | apply below_alloc | apply pw_below_drewN | apply below_drew1 | refine below_set ?_ (IsS29.ge HI0.out) | refine below_set ?_ GE234.out | refine below_set ?_ GE235.out) | exact HB.out)) : P := h
theorem zk34 {P : Prop} (h : P := by (with_reducible repeat (first | refine blk_drewN ?_ _ | refine blk_drew ?_ | refine blk_alloc ?_ _)); exact BK137.out) : P := h
theorem zk35 {P : Prop} (h : P := by first | exact Kd.R_nil _ _ _ _ _ | exact Kd.N_nil _ _ _ _ _ | exact Kd.V_nil _ _ _ _ _ | exact Kd.Q_nil _ _ _ _ _ | exact Kd.S_nil _ _ _ _ _) : P := h
theorem zk36 {P : Prop} (h : P := by repeat (first | (with_reducible first | exact HB.out | apply below_alloc | apply pw_below_drewN | apply below_drew1 | refine below_set ?_ GE126.out) | exact HB.out)) : P := h
theorem zk37 {P : Prop} (h : P := by repeat (first | (with_reducible first | exact HB.out | apply below_alloc | apply pw_below_drewN | apply below_drew1 | refine below_set ?_ GE298.out) | exact HB.out)) : P := h
theorem zk38 {P : Prop} (h : P := by (with_reducible repeat (first | apply Kd.R_alloc | apply Kd.R_drewN | apply Kd.R_drew)); exact HO_3.out) : P := h
theorem zk39 {P : Prop} (h : P := by (try simp only [List.map_toArray, List.map_cons, List.map_nil]); first | done | rfl) : P := h
theorem zk40 {P : Prop} (h : P := by (with_reducible repeat (first | apply Kd.R_alloc | apply Kd.R_drewN | apply Kd.R_drew)); exact HO139.out) : P := h
theorem zk41 {P : Prop} (h : P := by rw [if_neg (show ¬ (false = true) by decide)] at H; exact H) : P := h
theorem zk42 {P : Prop} (h : P := by repeat (first | (with_reducible first | exact HB.out | apply below_alloc | apply pw_below_drewN | apply below_drew1 | refine below_set ?_ GE137.out) | exact HB.out)) : P := h
theorem zk43 {P : Prop} (h : P := by exact (Reps.one (show Kd.M (Kd.int .u64) _ _ _ 1 [.int .u64 1] from rfl) (Reps.one (show Kd.M (Kd.int .u64) _ _ _ (IntKind.u64.wrap ((rd_T70 l0 0).f0)) [.int .u64 (IntKind.u64.wrap ((rd_T70 l0 0).f0))] from rfl) (Reps.one (show Kd.M (Kd.int .u64) _ _ _ (IntKind.u64.wrap (wrap64 ((wrap64 (((rd_T70 l0 (ji3)).f0) - ((rd_T70 l0 0).f0))) + 1))) [.int .u64 (IntKind.u64.wrap (wrap64 ((wrap64 (((rd_T70 l0 (ji3)).f0) - ((rd_T70 l0 0).f0))) + 1)))] from rfl) (Reps.none _ _))))) : P := h
theorem zk44 {P : Prop} (h : P := by (with_reducible repeat (first | refine blk_drewN ?_ _ | refine blk_drew ?_ | refine blk_alloc ?_ _)); refine blk_put (cs := #[.int .i64 ((rd_T70 l0 x32_1).f0), .int .u64 0]) ?_ 1 _ rfl; (with_reducible repeat (first | refine blk_drewN ?_ _ | refine blk_drew ?_ | refine blk_alloc ?_ _)); refine blk_put (cs := #[.int .i64 0, .int .u64 0]) ?_ 0 _ rfl; (with_reducible repeat (first | refine blk_drewN ?_ _ | refine blk_drew ?_ | refine blk_alloc ?_ _)); exact BK136.out) : P := h
theorem zk45 {P : Prop} (h : P := by (with_reducible repeat (first | refine blk_drewN ?_ _ | refine blk_drew ?_ | refine blk_alloc ?_ _)); exact BK157.out) : P := h
theorem zk46 {P : Prop} (h : P := by repeat (first | exact HR0.out | (with_reducible refine Kd.C_alloc ?_ _) | (with_reducible refine Kd.C_drewN ?_ _) | (with_reducible refine Kd.C_drew ?_))) : P := h
theorem zk47 {P : Prop} (h : P := by decide) : P := h
theorem zk48 {P : Prop} (h : P := by (with_reducible repeat (first | refine blk_drewN ?_ _ | refine blk_drew ?_ | refine blk_alloc ?_ _)); refine blk_far ?_ NB157_158.out _; (with_reducible repeat (first | refine blk_drewN ?_ _ | refine blk_drew ?_ | refine blk_alloc ?_ _)); exact BK157.out) : P := h
theorem zk49 {P : Prop} (h : P := by repeat (first | exact (Kd.C_below HR0.out HB.out) | (with_reducible refine Kd.C_alloc ?_ _) | (with_reducible refine Kd.C_drewN ?_ _) | (with_reducible refine Kd.C_drew ?_))) : P := h
theorem zk50 {P : Prop} (h : P := by rfl) : P := h
theorem zk51 {P : Prop} (h : P := by repeat (first | (with_reducible first | exact HB.out | apply below_alloc | apply pw_below_drewN | apply below_drew1 | refine below_set ?_ GE168.out | refine below_set ?_ GE169.out) | exact HB.out)) : P := h
theorem zk52 {P : Prop} (h : P := by (with_reducible repeat (first | refine blk_drewN ?_ _ | refine blk_drew ?_ | refine blk_alloc ?_ _)); exact BK276.out) : P := h
theorem zk53 {P : Prop} (h : P := by repeat (first | (with_reducible first | exact HB.out | apply below_alloc | apply pw_below_drewN | apply below_drew1 | refine below_set ?_ GE117.out) | exact HB.out)) : P := h
theorem zk54 {P : Prop} (h : P := by exact (below_size (by repeat (first | (with_reducible first | exact HB.out | apply below_alloc | apply pw_below_drewN | apply below_drew1 | refine below_set ?_ GE136.out) | exact HB.out)))) : P := h
theorem zk55 {P : Prop} (h : P := by refine blk_put (cs := #[.int .u64 0, .int .u64 0, .int .u64 0, .int .u64 0]) ?_ 3 _ rfl; refine blk_put (cs := #[.int .u64 0, .int .u64 0, .int .u64 0, .int .u64 0]) ?_ 2 _ rfl; refine blk_put (cs := #[.int .u64 0, .int .u64 0, .int .u64 0, .int .u64 0]) ?_ 1 _ rfl; refine blk_put (cs := #[.int .u64 0, .int .u64 0, .int .u64 0, .int .u64 0]) ?_ 0 _ rfl; exact HR.out) : P := h
theorem zk56 {P : Prop} (h : P := by simp) : P := h
theorem zk57 {P : Prop} (h : P := by exact (by (with_reducible repeat (first | apply Kd.R_alloc | apply Kd.R_drewN | apply Kd.R_drew)); exact Kd.R_mono (Kd.R_far (p := ⟨gb136, 1, none⟩) (Kd.R_far (p := ⟨gb136, 0, none⟩) (Kd.R_types HO_5.out BK136.out (by decide)) (fun _ hk => hk.2) (.int .i64 ((rd_T70 l0 x32_1).f0))) (fun _ hk => hk.2) (.int .u64 ((rd_T70 l0 x32_1).f1))) (fun _ hk => trivial))) : P := h
theorem zk58 {P : Prop} (h : P := by repeat (first | (with_reducible first | exact HK.out | apply KeepBut.set_ | apply keep_drewN | apply keep_drew | apply keep_alloc | refine keep_far ?_ GW234.out _) | exact HK.out)) : P := h
theorem zk59 {P : Prop} (h : P := by (with_reducible repeat (first | refine blk_drewN ?_ _ | refine blk_drew ?_ | refine blk_alloc ?_ _)); exact BK136.out) : P := h
theorem zk60 {P : Prop} (h : P := by (with_reducible repeat (first | refine blk_drewN ?_ _ | refine blk_drew ?_ | refine blk_alloc ?_ _)); exact BK329.out) : P := h
theorem zk61 {P : Prop} (h : P := by exact (by repeat (first | (with_reducible first | exact HB.out | apply below_alloc | apply pw_below_drewN | apply below_drew1 | refine below_set ?_ GE136.out) | exact HB.out))) : P := h
theorem zk62 {P : Prop} (h : P := by (with_reducible repeat (first | apply Kd.R_alloc | apply Kd.R_drewN | apply Kd.R_drew)); exact Kd.R_mono (Kd.R_far (p := ⟨gb136, 1, none⟩) (Kd.R_far (p := ⟨gb136, 0, none⟩) (Kd.R_types HO_5.out BK136.out (by decide)) (fun _ hk => hk.2) (.int .i64 ((rd_T70 l0 x32_1).f0))) (fun _ hk => hk.2) (.int .u64 ((rd_T70 l0 x32_1).f1))) (fun _ hk => trivial)) : P := h
theorem zk63 {P : Prop} (h : P := by (with_reducible repeat (first | apply Kd.R_alloc | apply Kd.R_drewN | apply Kd.R_drew)); exact HO282.out) : P := h
theorem zk64 {P : Prop} (h : P := by (with_reducible repeat (first | refine blk_drewN ?_ _ | refine blk_drew ?_ | refine blk_alloc ?_ _)); refine blk_put (cs := #[.slice none 0 0, .slice none 0 0, .int .u64 0, .int .u64 0, .int .u64 0, .int .u64 0]) ?_ 0 _ rfl; (with_reducible repeat (first | refine blk_drewN ?_ _ | refine blk_drew ?_ | refine blk_alloc ?_ _)); exact BK158.out) : P := h
theorem zk65 {P : Prop} (h : P := by (with_reducible repeat (first | refine blk_drewN ?_ _ | refine blk_drew ?_ | refine blk_alloc ?_ _)); refine blk_far ?_ NB234_235.out _; (with_reducible repeat (first | refine blk_drewN ?_ _ | refine blk_drew ?_ | refine blk_alloc ?_ _)); exact BK234.out) : P := h
theorem zk66 {P : Prop} (h : P := by repeat (first | (with_reducible first | exact HB.out | apply below_alloc | apply pw_below_drewN | apply below_drew1 | refine below_set ?_ GE158.out) | exact HB.out)) : P := h
theorem zk67 {P : Prop} (h : P := by rw [HW2.out]; exact putRow_drewN _ _ _ _ _ _ _) : P := h
theorem zk68 {P : Prop} (h : P := by first | exact HS.out.fails | exact HS.out.fails.fails) : P := h
theorem zk69 {P : Prop} (h : P := by (with_reducible repeat (first | refine blk_drewN ?_ _ | refine blk_drew ?_ | refine blk_alloc ?_ _)); refine blk_put (cs := #[.int .u64 t334, .int .u64 t331, .int .u64 0, .int .u64 0]) ?_ 2 _ rfl; (with_reducible repeat (first | refine blk_drewN ?_ _ | refine blk_drew ?_ | refine blk_alloc ?_ _)); exact BK330.out) : P := h
theorem zk70 {P : Prop} (h : P := by (with_reducible repeat (first | refine blk_drewN ?_ _ | refine blk_drew ?_ | refine blk_alloc ?_ _)); exact BK234.out) : P := h
theorem zk71 {P : Prop} (h : P := by repeat (first | exact (Kd.C_below HR0_0.out HB.out) | (with_reducible refine Kd.C_alloc ?_ _) | (with_reducible refine Kd.C_drewN ?_ _) | (with_reducible refine Kd.C_drew ?_))) : P := h
theorem zk72 {P : Prop} (h : P := by (with_reducible repeat (first | apply Kd.R_alloc | apply Kd.R_drewN | apply Kd.R_drew)); exact HO_5.out) : P := h
theorem zk73 {P : Prop} (h : P := by (with_reducible repeat (first | apply Kd.R_alloc | apply Kd.R_drewN | apply Kd.R_drew)); exact HO_6.out) : P := h
theorem zk74 {P : Prop} (h : P := by repeat (first | (with_reducible first | exact HB.out | apply below_alloc | apply pw_below_drewN | apply below_drew1 | refine below_set ?_ GE132.out) | exact HB.out)) : P := h
theorem zk75 {P : Prop} (h : P := by (with_reducible repeat (first | refine blk_drewN ?_ _ | refine blk_drew ?_ | refine blk_alloc ?_ _)); exact BK138.out) : P := h
theorem zk76 {P : Prop} (h : P := by rw [if_pos rfl] at H; exact H) : P := h
theorem zk77 {P : Prop} (h : P := by exact (below_size (by repeat (first | (with_reducible first | exact HB.out | apply below_alloc | apply pw_below_drewN | apply below_drew1 | refine below_set ?_ GE276.out) | exact HB.out)))) : P := h
theorem zk78 {P : Prop} (h : P := by (with_reducible repeat (first | apply Kd.R_alloc | apply Kd.R_drewN | apply Kd.R_drew)); exact HO123.out) : P := h
theorem zk79 {P : Prop} (h : P := by exact (by (with_reducible repeat (first | apply Kd.R_alloc | apply Kd.R_drewN | apply Kd.R_drew)); exact Kd.R_mono HO_3.out (fun _ hk => hk.2))) : P := h
theorem zk80 {P : Prop} (h : P := by (with_reducible repeat (first | refine blk_drewN ?_ _ | refine blk_drew ?_ | refine blk_alloc ?_ _)); exact BK330.out) : P := h
theorem zk81 {P : Prop} (h : P := by exact (by repeat (first | (with_reducible first | exact HB.out | apply below_alloc | apply pw_below_drewN | apply below_drew1 | refine below_set ?_ GE276.out) | exact HB.out))) : P := h
theorem zk82 {P : Prop} (h : P := by (with_reducible repeat (first | refine blk_drewN ?_ _ | refine blk_drew ?_ | refine blk_alloc ?_ _)); refine blk_put (cs := #[.slice none 0 0, .slice none 0 0, .int .u64 0, .int .u64 0, .int .u64 0, .int .u64 0]) ?_ 0 _ rfl; (with_reducible repeat (first | refine blk_drewN ?_ _ | refine blk_drew ?_ | refine blk_alloc ?_ _)); exact BK235.out) : P := h
theorem zk83 {P : Prop} (h : P := by repeat (first | exact (Kd.C_below HR0_1.out (by repeat (first | (with_reducible first | exact HB.out | apply below_alloc | apply pw_below_drewN | apply below_drew1 | refine below_set ?_ GE158.out) | exact HB.out))) | (with_reducible refine Kd.C_alloc ?_ _) | (with_reducible refine Kd.C_drewN ?_ _) | (with_reducible refine Kd.C_drew ?_))) : P := h
theorem zk84 {P : Prop} (h : P := by (with_reducible repeat (first | apply Kd.R_alloc | apply Kd.R_drewN | apply Kd.R_drew)); exact Kd.R_mono HO_3.out (fun _ hk => hk.2)) : P := h
theorem zk85 {P : Prop} (h : P := by repeat (first | (with_reducible first | exact HB.out | apply below_alloc | apply pw_below_drewN | apply below_drew1 | refine below_set ?_ GE107.out) | exact HB.out)) : P := h
theorem zk86 {P : Prop} (h : P := by (with_reducible repeat (first | refine blk_drewN ?_ _ | refine blk_drew ?_ | refine blk_alloc ?_ _)); refine blk_put (cs := #[.int .u64 t334, .int .u64 t331, .int .u64 t337, .int .u64 0]) ?_ 3 _ rfl; (with_reducible repeat (first | refine blk_drewN ?_ _ | refine blk_drew ?_ | refine blk_alloc ?_ _)); exact BK330.out) : P := h
theorem zk87 {P : Prop} (h : P := by (with_reducible repeat (first | apply Kd.R_alloc | apply Kd.R_drewN | apply Kd.R_drew)); exact HO183.out) : P := h
theorem zk88 {P : Prop} (h : P := by (with_reducible repeat (first | apply Kd.R_alloc | apply Kd.R_drewN | apply Kd.R_drew)); exact HO142.out) : P := h
theorem zk89 {P : Prop} (h : P := by (with_reducible repeat (first | apply Kd.R_alloc | apply Kd.R_drewN | apply Kd.R_drew)); exact HO145.out) : P := h
theorem zk90 {P : Prop} (h : P := by (with_reducible repeat (first | refine blk_drewN ?_ _ | refine blk_drew ?_ | refine blk_alloc ?_ _)); refine blk_put (cs := #[.int .u64 0, .int .u64 t331, .int .u64 0, .int .u64 0]) ?_ 0 _ rfl; (with_reducible repeat (first | refine blk_drewN ?_ _ | refine blk_drew ?_ | refine blk_alloc ?_ _)); exact BK330.out) : P := h
theorem zk91 {P : Prop} (h : P := by (with_reducible repeat (first | refine blk_drewN ?_ _ | refine blk_drew ?_ | refine blk_alloc ?_ _)); exact BK298.out) : P := h
theorem zk92 {P : Prop} (h : P := by first | (rw [hy110]; with_reducible exact H) | (have H2_ := (Option.bind_some _ _).symm.trans H; rw [hy110]; with_reducible exact H2_) | (have H2_ := (Option.bind_some _ _).symm.trans H; with_reducible exact H2_) | with_reducible exact H | (rw [hy110]; exact H) | exact H) : P := h
theorem zk93 {P : Prop} (h : P := by first | (rw [hy124]; with_reducible exact H) | (have H2_ := (Option.bind_some _ _).symm.trans H; rw [hy124]; with_reducible exact H2_) | (have H2_ := (Option.bind_some _ _).symm.trans H; with_reducible exact H2_) | with_reducible exact H | (rw [hy124]; exact H) | exact H) : P := h
theorem zk94 {P : Prop} (h : P := by first | (rw [hy137]; with_reducible exact H) | (have H2_ := (Option.bind_some _ _).symm.trans H; rw [hy137]; with_reducible exact H2_) | (have H2_ := (Option.bind_some _ _).symm.trans H; with_reducible exact H2_) | with_reducible exact H | (rw [hy137]; exact H) | exact H) : P := h
theorem zk95 {P : Prop} (h : P := by first | rfl | (simp [errW_none, errW_some] <;> rfl) | (simp only [← hji18, ← hji20]; first | rfl | (simp [errW_none, errW_some] <;> rfl)) | (simp [*, errW_none, errW_some] <;> rfl)) : P := h
theorem zk96 {P : Prop} (h : P := by repeat (first | (with_reducible first | exact HK.out | apply KeepBut.set_ | apply keep_drewN | apply keep_drew | apply keep_alloc | refine keep_far ?_ GW329.out _) | exact HK.out)) : P := h
theorem zk97 {P : Prop} (h : P := by have := HI.out; omega) : P := h
theorem zk98 {P : Prop} (h : P := by (with_reducible repeat (first | apply Kd.R_alloc | apply Kd.R_drewN | apply Kd.R_drew)); exact HO136.out) : P := h
theorem zk99 {P : Prop} (h : P := by (with_reducible repeat (first | apply Kd.R_alloc | apply Kd.R_drewN | apply Kd.R_drew)); exact HO160.out) : P := h
theorem zk100 {P : Prop} (h : P := by (with_reducible repeat (first | apply Kd.R_alloc | apply Kd.R_drewN | apply Kd.R_drew)); exact HO151.out) : P := h
theorem zk101 {P : Prop} (h : P := by (with_reducible repeat (first | apply Kd.R_alloc | apply Kd.R_drewN | apply Kd.R_drew)); exact HO304.out) : P := h
theorem zk102 {P : Prop} (h : P := by repeat (first | exact (Kd.R_reads' HO131.out).2.2 | (with_reducible refine Kd.C_alloc ?_ _) | (with_reducible refine Kd.C_drewN ?_ _) | (with_reducible refine Kd.C_drew ?_))) : P := h
theorem zk103 {P : Prop} (h : P := by repeat (first | exact (Kd.R_reads' HO142.out).2.2 | (with_reducible refine Kd.C_alloc ?_ _) | (with_reducible refine Kd.C_drewN ?_ _) | (with_reducible refine Kd.C_drew ?_))) : P := h
theorem zk104 {P : Prop} (h : P := by repeat (first | exact (Kd.R_reads' HO145.out).2.2 | (with_reducible refine Kd.C_alloc ?_ _) | (with_reducible refine Kd.C_drewN ?_ _) | (with_reducible refine Kd.C_drew ?_))) : P := h
theorem zk105 {P : Prop} (h : P := by repeat (first | (with_reducible first | exact HB.out | apply below_alloc | apply pw_below_drewN | apply below_drew1 | refine below_set ?_ GE168.out) | exact HB.out)) : P := h
theorem zk106 {P : Prop} (h : P := by (with_reducible repeat (first | refine blk_drewN ?_ _ | refine blk_drew ?_ | refine blk_alloc ?_ _)); exact BK168.out) : P := h
theorem zk107 {P : Prop} (h : P := by exact (fun k_ hk => Kd.fresh' (Kd.R_lt (by (with_reducible repeat (first | apply Kd.R_alloc | apply Kd.R_drewN | apply Kd.R_drew)); exact HO145.out)) k_ hk)) : P := h
theorem zk108 {P : Prop} (h : P := by first | rfl | go_num) : P := h
theorem zk109 {P : Prop} (h : P := by simp only; omega) : P := h
theorem zk110 {P : Prop} (h : P := by exact (by first | exact below_then HBW.out HSZ.out HB3.out | exact (below_then HBW.out HSZ.out HB3.out).alloc (Nat.le_trans HSZ.out HB3.out.size) _)) : P := h
theorem zk111 {P : Prop} (h : P := by exact (by (with_reducible repeat (first | apply Kd.R_alloc | apply Kd.R_drewN | apply Kd.R_drew)); exact Kd.R_mono HO139.out (fun _ hk => hk.2))) : P := h
theorem zk112 {P : Prop} (h : P := by repeat (first | (with_reducible first | exact HI0.out | apply IsS29.alloc | apply IsS29.drewN | apply IsS29.drew | apply IsS29.set_1 | apply IsS29.set_2 | apply IsS29.far (hne := NB0_234.out)) | exact HI0.out)) : P := h
theorem zk113 {P : Prop} (h : P := by (with_reducible repeat (first | apply Kd.R_alloc | apply Kd.R_drewN | apply Kd.R_drew)); exact HO129.out) : P := h
theorem zk114 {P : Prop} (h : P := by (with_reducible repeat (first | apply Kd.R_alloc | apply Kd.R_drewN | apply Kd.R_drew)); exact HO279.out) : P := h
theorem zk115 {P : Prop} (h : P := by (with_reducible repeat (first | apply Kd.R_alloc | apply Kd.R_drewN | apply Kd.R_drew)); exact HO288.out) : P := h
theorem zk116 {P : Prop} (h : P := by first | exact below_then HBW.out HSZ.out HB3.out | exact (below_then HBW.out HSZ.out HB3.out).alloc (Nat.le_trans HSZ.out HB3.out.size) _) : P := h
theorem zk117 {P : Prop} (h : P := by repeat (first | (with_reducible first | exact HB.out | apply below_alloc | apply pw_below_drewN | apply below_drew1 | refine below_set ?_ (IsS29.ge HI0.out) | refine below_set ?_ GE234.out) | exact HB.out)) : P := h
theorem zk118 {P : Prop} (h : P := by exact (keep_size (w := w) (g := g) (row := none) (by repeat (first | (with_reducible first | exact HK.out | apply KeepBut.set_ | apply keep_drewN | apply keep_drew | apply keep_alloc) | exact HK.out)))) : P := h
theorem zk119 {P : Prop} (h : P := by (with_reducible repeat (first | apply Kd.R_alloc | apply Kd.R_drewN | apply Kd.R_drew)); exact Kd.R_mono HO139.out (fun _ hk => hk.2)) : P := h
theorem zk120 {P : Prop} (h : P := by exact (by (with_reducible repeat (first | apply Kd.R_alloc | apply Kd.R_drewN | apply Kd.R_drew)); exact Kd.R_below HR.out HB3.out)) : P := h
theorem zk121 {P : Prop} (h : P := by exact (Reps.one (show Kd.M (Kd.int .u64) _ _ _ ((rd_T70 l0 x32_1).f1) [.int .u64 ((rd_T70 l0 x32_1).f1)] from rfl) (Reps.none _ _))) : P := h
theorem zk122 {P : Prop} (h : P := by first | omega | exact Nat.le_refl _) : P := h
theorem zk123 {P : Prop} (h : P := by exact (below_size (by repeat (first | (with_reducible first | exact HB.out | apply below_alloc | apply pw_below_drewN | apply below_drew1 | refine below_set ?_ GE298.out) | exact HB.out)))) : P := h
theorem zk124 {P : Prop} (h : P := by exact (by first | exact Nat.le_trans HSZ.out HB3.out.size | exact Nat.le_trans HSZ.out (Nat.le_trans HB3.out.size (by simp)))) : P := h
theorem zk125 {P : Prop} (h : P := by exact (fun _ _ => trivial)) : P := h
theorem zk126 {P : Prop} (h : P := by have := HK1.out; first | omega | exact Nat.le_refl _) : P := h
theorem zk127 {P : Prop} (h : P := by (with_reducible repeat (first | apply Kd.R_alloc | apply Kd.R_drewN | apply Kd.R_drew)); exact Kd.R_below HR.out HB3.out) : P := h
theorem zk128 {P : Prop} (h : P := by (with_reducible repeat (first | refine blk_drewN ?_ _ | refine blk_drew ?_ | refine blk_alloc ?_ _)); exact BK126.out) : P := h
theorem zk129 {P : Prop} (h : P := by exact (by repeat (first | (with_reducible first | exact HB.out | apply below_alloc | apply pw_below_drewN | apply below_drew1 | refine below_set ?_ GE298.out) | exact HB.out))) : P := h
theorem zk130 {P : Prop} (h : P := by repeat (first | exact (Kd.R_reads' HO123.out).2.2 | (with_reducible refine Kd.C_alloc ?_ _) | (with_reducible refine Kd.C_drewN ?_ _) | (with_reducible refine Kd.C_drew ?_))) : P := h
theorem zk131 {P : Prop} (h : P := by repeat (first | exact (Kd.R_reads' HO282.out).2.2 | (with_reducible refine Kd.C_alloc ?_ _) | (with_reducible refine Kd.C_drewN ?_ _) | (with_reducible refine Kd.C_drew ?_))) : P := h
theorem zk132 {P : Prop} (h : P := by first | exact Nat.le_trans HSZ.out HB3.out.size | exact Nat.le_trans HSZ.out (Nat.le_trans HB3.out.size (by simp))) : P := h
theorem zk133 {P : Prop} (h : P := by (with_reducible repeat (first | apply Kd.R_alloc | apply Kd.R_drewN | apply Kd.R_drew)); exact HO112.out) : P := h
theorem zk134 {P : Prop} (h : P := by (with_reducible repeat (first | apply Kd.R_alloc | apply Kd.R_drewN | apply Kd.R_drew)); exact HO115.out) : P := h
theorem zk135 {P : Prop} (h : P := by exact (fun k_ hk => Kd.fresh' (Kd.R_lt (by (with_reducible repeat (first | apply Kd.R_alloc | apply Kd.R_drewN | apply Kd.R_drew)); exact HO123.out)) k_ hk)) : P := h
theorem zk136 {P : Prop} (h : P := by (with_reducible repeat (first | apply Kd.R_alloc | apply Kd.R_drewN | apply Kd.R_drew)); exact HO126.out) : P := h
theorem zk137 {P : Prop} (h : P := by (with_reducible repeat (first | apply Kd.R_alloc | apply Kd.R_drewN | apply Kd.R_drew)); exact HO163.out) : P := h
theorem zk138 {P : Prop} (h : P := by (with_reducible repeat (first | apply Kd.R_alloc | apply Kd.R_drewN | apply Kd.R_drew)); exact HO131.out) : P := h
theorem zk139 {P : Prop} (h : P := by exact (fun k_ hk => Kd.fresh' (Kd.R_lt (by (with_reducible repeat (first | apply Kd.R_alloc | apply Kd.R_drewN | apply Kd.R_drew)); exact HO282.out)) k_ hk)) : P := h
theorem zk140 {P : Prop} (h : P := by (with_reducible repeat (first | apply Kd.R_alloc | apply Kd.R_drewN | apply Kd.R_drew)); exact HO285.out) : P := h
theorem zk141 {P : Prop} (h : P := by (with_reducible repeat (first | apply Kd.R_alloc | apply Kd.R_drewN | apply Kd.R_drew)); exact HO307.out) : P := h
theorem zk142 {P : Prop} (h : P := by first | rfl | (simp; done) | (simp only [← hji12, ← hji14] <;> (first | rfl | simp)) | (simp [*]; done)) : P := h
theorem zk143 {P : Prop} (h : P := by rw [IntKind.wrap_i64]; omega) : P := h
theorem zk144 {P : Prop} (h : P := by rw [IntKind.wrap_u64]; omega) : P := h
theorem zk145 {P : Prop} (h : P := by have := HI.out; simp only [List.length_append, List.length_singleton]; omega) : P := h
theorem zk146 {P : Prop} (h : P := by simp only [List.length_append, List.length_singleton]; omega) : P := h
theorem zk147 {P : Prop} (h : P := by simp only [List.length_append]; omega) : P := h
theorem zk148 {P : Prop} (h : P := by first | (rw [hji14] at H; exact H) | (simp only [hji14] at H ⊢; exact H)) : P := h
theorem zk149 {P : Prop} (h : P := by exact (by (with_reducible repeat (first | apply Kd.R_alloc | apply Kd.R_drewN | apply Kd.R_drew)); exact Kd.R_mono HO279.out (fun _ hk => hk.2))) : P := h
theorem zk150 {P : Prop} (h : P := by have := HK1.out; omega) : P := h
theorem zk151 {P : Prop} (h : P := by (with_reducible repeat (first | apply Kd.R_alloc | apply Kd.R_drewN | apply Kd.R_drew)); exact Kd.R_mono HO183.out (fun _ hk => trivial)) : P := h
theorem zk152 {P : Prop} (h : P := by (with_reducible repeat (first | apply Kd.R_alloc | apply Kd.R_drewN | apply Kd.R_drew)); exact Kd.R_mono HO279.out (fun _ hk => hk.2)) : P := h
theorem zk153 {P : Prop} (h : P := by first | exact HS.out | exact HS.out.fails) : P := h
theorem zk154 {P : Prop} (h : P := by unfold wrap64; omega) : P := h
theorem zk155 {P : Prop} (h : P := by rw [← HG.out, ← HG.out]; simpa using hl) : P := h
theorem zk156 {P : Prop} (h : P := by (with_reducible repeat (first | refine blk_drewN ?_ _ | refine blk_drew ?_ | refine blk_alloc ?_ _)); exact BK117.out) : P := h
theorem zk157 {P : Prop} (h : P := by (with_reducible repeat (first | refine blk_drewN ?_ _ | refine blk_drew ?_ | refine blk_alloc ?_ _)); exact BK235.out) : P := h
theorem zk158 {P : Prop} (h : P := by exact (fun k hk e => by subst e; have := HS.out.lt; omega)) : P := h
theorem zk159 {P : Prop} (h : P := by unfold refRd; rw [h0]; simp only; rw [if_neg (by omega), if_pos (by first | trivial | rfl), hf]; simp only; rw [hc]) : P := h
theorem zk160 {P : Prop} (h : P := by exact (by (with_reducible repeat (first | apply Kd.R_alloc | apply Kd.R_drewN | apply Kd.R_drew)); exact HO_6.out)) : P := h
theorem zk161 {P : Prop} (h : P := by rw [List.length_take]; omega) : P := h
theorem zk162 {P : Prop} (h : P := by rw [IntKind.wrap_i64]; have := HI.out; omega) : P := h
theorem zk163 {P : Prop} (h : P := by first | (rw [hji12] at H; exact H) | (simp only [hji12] at H ⊢; exact H)) : P := h
theorem zk164 {P : Prop} (h : P := by rw [List.length_append]; omega) : P := h
theorem zk165 {P : Prop} (h : P := by (with_reducible repeat (first | apply Kd.R_alloc | apply Kd.R_drewN | apply Kd.R_drew)); exact HO157.out) : P := h
theorem zk166 {P : Prop} (h : P := by (with_reducible repeat (first | apply Kd.R_alloc | apply Kd.R_drewN | apply Kd.R_drew)); exact HO174.out) : P := h
theorem zk167 {P : Prop} (h : P := by (with_reducible repeat (first | apply Kd.R_alloc | apply Kd.R_drewN | apply Kd.R_drew)); exact HO197.out) : P := h
theorem zk168 {P : Prop} (h : P := by (with_reducible repeat (first | apply Kd.R_alloc | apply Kd.R_drewN | apply Kd.R_drew)); exact HO205.out) : P := h
theorem zk169 {P : Prop} (h : P := by (with_reducible repeat (first | apply Kd.R_alloc | apply Kd.R_drewN | apply Kd.R_drew)); exact HO120.out) : P := h
theorem zk170 {P : Prop} (h : P := by (with_reducible repeat (first | apply Kd.R_alloc | apply Kd.R_drewN | apply Kd.R_drew)); exact HO132.out) : P := h
theorem zk171 {P : Prop} (h : P := by (with_reducible repeat (first | apply Kd.R_alloc | apply Kd.R_drewN | apply Kd.R_drew)); exact HO291.out) : P := h
theorem zk172 {P : Prop} (h : P := by (with_reducible repeat (first | apply Kd.R_alloc | apply Kd.R_drewN | apply Kd.R_drew)); exact HO301.out) : P := h
theorem zk173 {P : Prop} (h : P := by exact HA.out.below (below_alloc (Below.refl _ _) _)) : P := h
theorem zk174 {P : Prop} (h : P := by rw [str_size, str_size]; have := congrArg List.length hX; rw [hY, List.length_append] at this; omega) : P := h
theorem zk175 {P : Prop} (h : P := by first | rfl | (simp; done) | (simp only [← hji14] <;> (first | rfl | simp)) | (simp [*]; done)) : P := h
theorem zk176 {P : Prop} (h : P := by go_num) : P := h
theorem zk177 {P : Prop} (h : P := by rw [e1, ← HG.out, ← HG.out]; simpa using l0) : P := h
theorem zk178 {P : Prop} (h : P := by rw [hb]; simp) : P := h
theorem zk179 {P : Prop} (h : P := by congr 1; omega) : P := h
theorem zk180 {P : Prop} (h : P := by rw [size_swp]; exact hsk) : P := h
theorem zk181 {P : Prop} (h : P := by exact Nat.le_refl _) : P := h
theorem zk182 {P : Prop} (h : P := by simp [hq, getR]) : P := h
theorem zk183 {P : Prop} (h : P := by first | rfl | (congr 1; omega)) : P := h
theorem zk184 {P : Prop} (h : P := by go_simp; rfl) : P := h
theorem zk185 {P : Prop} (h : P := by exact Kd.C_nil _ _) : P := h
theorem zk186 {P : Prop} (h : P := by rw [show x.f0 + 1 - 1 = x.f0 by omega]; exact c4) : P := h
theorem zk187 {P : Prop} (h : P := by rw [nums, List.length_map]; omega) : P := h
theorem zk188 {P : Prop} (h : P := by have := HIN.out; omega) : P := h
theorem zk189 {P : Prop} (h : P := by exact ((Kd.R_nil _ _ _ _ (fun _ => True)))) : P := h
theorem zk190 {P : Prop} (h : P := by first | trivial | rfl) : P := h
theorem zk191 {P : Prop} (h : P := by simp only [maxLen]; omega) : P := h
theorem zk192 {P : Prop} (h : P := by rw [← hw]; exact Drawn0.refl w) : P := h
theorem zk193 {P : Prop} (h : P := by have := HJ1.out; have := HK2.out; omega) : P := h
theorem zk194 {P : Prop} (h : P := by intro c; cases c; exact e rfl) : P := h
theorem zk195 {P : Prop} (h : P := by rw [rd_drop (by omega)]; simp) : P := h
theorem zk196 {P : Prop} (h : P := by simp [results, Try.results123, go_sem]) : P := h
theorem zk197 {P : Prop} (h : P := by simp [results, Try.results121, go_sem]) : P := h
theorem zk198 {P : Prop} (h : P := by rw [decide_eq_false (by omega)]; simp) : P := h
theorem zk199 {P : Prop} (h : P := by have := HI.out; simp; omega) : P := h
theorem zk200 {P : Prop} (h : P := by simpa using hp) : P := h
theorem zk201 {P : Prop} (h : P := by exact C_one wr _) : P := h
theorem zk202 {P : Prop} (h : P := by have := LMc16.out; omega) : P := h
theorem zk203 {P : Prop} (h : P := by have := LMc18.out; omega) : P := h
theorem zk204 {P : Prop} (h : P := by rw [size_swp]; exact hsj) : P := h
theorem zk205 {P : Prop} (h : P := by injection e128) : P := h
theorem zk206 {P : Prop} (h : P := by simp only [Act.put, List.setIfInBounds_toArray, List.set_cons_zero, List.set_cons_succ, i64_w, i32_w]; rfl) : P := h
theorem zk207 {P : Prop} (h : P := by intro w'; go_simp; (with_reducible rfl)) : P := h
theorem zk208 {P : Prop} (h : P := by rintro w' ⟨s0_, s1_, s2_, s3_, s4_, s5_, s6_, s7_, s8_, s9_, s10_, s11_, s12_, s13_⟩; go_simp; (with_reducible rfl)) : P := h
theorem zk209 {P : Prop} (h : P := by rintro w' ⟨s0_, s1_, s2_⟩; go_simp; (with_reducible rfl)) : P := h
theorem zk210 {P : Prop} (h : P := by have l1 : n < 2 ^ i := Nat.lt_of_lt_of_le (show n < 2 ^ 63 by omega) (Nat.pow_le_pow_right zk47 zk6); have l2 : 2 ^ 63 + n < 2 ^ i := Nat.lt_of_lt_of_le (show 2 ^ 63 + n < 2 ^ 64 by omega) (Nat.pow_le_pow_right zk47 zk6); rw [Nat.testBit_lt_two_pow l1, Nat.testBit_lt_two_pow l2, decide_eq_false zk6]; rfl) : P := h
theorem zk211 {P : Prop} (h : P := by show Act.put _ (some 108) _ = _; simp only [Act.put, List.setIfInBounds_toArray, List.set_cons_zero, List.set_cons_succ, i64_w, i32_w]; rfl) : P := h
theorem zk212 {P : Prop} (h : P := by show Act.put _ (some 109) _ = _; simp only [Act.put, List.setIfInBounds_toArray, List.set_cons_zero, List.set_cons_succ, i64_w, i32_w]; rfl) : P := h
theorem zk213 {P : Prop} (h : P := by show Act.put _ (some 21) _ = _; simp only [Act.put, List.setIfInBounds_toArray, List.set_cons_zero, List.set_cons_succ, i64_w, i32_w]; rfl) : P := h
theorem zk214 {P : Prop} (h : P := by show Act.put _ (some 36) _ = _; simp only [Act.put, List.setIfInBounds_toArray, List.set_cons_zero, List.set_cons_succ, i64_w, i32_w]; rfl) : P := h
theorem zk215 {P : Prop} (h : P := by show Act.put _ (some 31) _ = _; simp only [Act.put, List.setIfInBounds_toArray, List.set_cons_zero, List.set_cons_succ, i64_w, i32_w]; rfl) : P := h
theorem zk216 {P : Prop} (h : P := by rintro w' ⟨s0, s1, s2, s3⟩; go_simp; (with_reducible rfl)) : P := h
theorem zk217 {P : Prop} (h : P := by simp [Builtin.append_, run_underlying ht, sizeOf, typeInfo, hi, Builtin.lenOf, Builtin.firstCells, hnc, storeCells]) : P := h
theorem zk218 {P : Prop} (h : P := by simp [Builtin.append_, run_underlying ht, sizeOf, typeInfo, hi, Builtin.lenOf, Builtin.firstCells]) : P := h
theorem zk219 {P : Prop} (h : P := by show Act.put _ (some 26) _ = _; simp only [Act.put, List.setIfInBounds_toArray, List.set_cons_zero, List.set_cons_succ, i64_w, i32_w]; rfl) : P := h
theorem zk220 {P : Prop} (h : P := by show Act.put _ (some 15) _ = _; simp only [Act.put, List.setIfInBounds_toArray, List.set_cons_zero, List.set_cons_succ, i64_w, i32_w]; rfl) : P := h
theorem zk221 {P : Prop} (h : P := by show Act.put _ (some 16) _ = _; simp only [Act.put, List.setIfInBounds_toArray, List.set_cons_zero, List.set_cons_succ, i64_w, i32_w]; rfl) : P := h
theorem zk222 {P : Prop} (h : P := by show Act.put _ (some 10) _ = _; simp only [Act.put, List.setIfInBounds_toArray, List.set_cons_zero, List.set_cons_succ, i64_w, i32_w]; rfl) : P := h
theorem zk223 {P : Prop} (h : P := by show Act.put _ (some 37) _ = _; simp only [Act.put, List.setIfInBounds_toArray, List.set_cons_zero, List.set_cons_succ, i64_w, i32_w]; rfl) : P := h
theorem zk224 {P : Prop} (h : P := by show Act.put _ (some 43) _ = _; simp only [Act.put, List.setIfInBounds_toArray, List.set_cons_zero, List.set_cons_succ, i64_w, i32_w]; rfl) : P := h
theorem zk225 {P : Prop} (h : P := by show Act.put _ (some 6) _ = _; simp only [Act.put, List.setIfInBounds_toArray, List.set_cons_zero, List.set_cons_succ, i64_w, i32_w]; rfl) : P := h
theorem zk226 {P : Prop} (h : P := by show Act.put _ (some 9) _ = _; simp only [Act.put, List.setIfInBounds_toArray, List.set_cons_zero, List.set_cons_succ, i64_w, i32_w]; rfl) : P := h
theorem zk227 {P : Prop} (h : P := by rw [if_neg c6] at H; exact absurd H zk56) : P := h
theorem zk228 {P : Prop} (h : P := by rw [if_neg c4] at H; exact absurd H zk56) : P := h
theorem zk229 {P : Prop} (h : P := by rw [if_neg c13] at H; exact absurd H zk56) : P := h
theorem zk230 {P : Prop} (h : P := by rw [if_neg c11] at H; exact absurd H zk56) : P := h
theorem zk231 {P : Prop} (h : P := by rcases List.mem_append.1 hx with hx | hx <;> exact encN_by _ x hx) : P := h
theorem zk232 {P : Prop} (h : P := by rintro w' ⟨s0, s1, s2, s3, s4, s5⟩; go_simp; (with_reducible rfl)) : P := h
theorem zk233 {P : Prop} (h : P := by (try rw [hEq]); simp only [HG.out]; exact HS.out.round HH.out hsk hblk Y zk6 zk6 rfl rfl _) : P := h
theorem zk234 {P : Prop} (h : P := by subst hji; exact (hy.yieldsIf (S := fun _ => True)).wpOp hi trivial ⟨fun _ h => h, H⟩) : P := h
theorem zk235 {P : Prop} (h : P := by rw [if_neg c5] at H; exact absurd H zk56) : P := h
theorem zk236 {P : Prop} (h : P := by rw [if_neg c3] at H; exact absurd H zk56) : P := h
theorem zk237 {P : Prop} (h : P := by rw [if_neg c9] at H; exact absurd H zk56) : P := h
theorem zk238 {P : Prop} (h : P := by rw [if_neg c2] at H; exact absurd H zk56) : P := h
theorem zk239 {P : Prop} (h : P := by rw [if_neg c8] at H; exact absurd H zk56) : P := h
theorem zk240 {P : Prop} (h : P := by exact .inr ⟨_, hat, Nat.le_refl _⟩) : P := h
theorem zk241 {P : Prop} (h : P := by exact ReadPost.no HN.out (HB0.out.trans ((below_then HBW.out HSZ.out HB3.out).mono (Nat.le_succ _)))) : P := h
theorem zk242 {P : Prop} (h : P := by exact ⟨zk14, zk21⟩) : P := h
theorem zk243 {P : Prop} (h : P := by exact RefPost.no HN.out zk68) : P := h
theorem zk244 {P : Prop} (h : P := by exact ⟨HB0.out.trans (HBW.out.mono (Nat.le_succ _)), (fun l r e => by rw [HN.out] at e; cases e; exact ⟨_, rfl, Kd.R_lower HR.out (Nat.le_succ _)⟩), fun e => by rw [HN.out] at e; cases e⟩) : P := h
theorem zk245 {P : Prop} (h : P := by exact ⟨(fun l' q' e => by rw [HN.out] at e; cases e; exact ⟨_, rfl, Kd.R_mono HR.out (fun _ _ => trivial), HS.out⟩), fun e => by rw [HN.out] at e; cases e⟩) : P := h
theorem zk246 {P : Prop} (h : P := by exact ⟨zk7, zk4, zk3, zk5⟩) : P := h
theorem zk247 {P : Prop} (h : P := by exact ⟨rfl, rfl⟩) : P := h
theorem zk248 {P : Prop} (h : P := by exact RisePost.no HN.out (below_then HBW.out HBW.out.size HB3.out)) : P := h
theorem zk249 {P : Prop} (h : P := by exact ReadPost.no HN.out (below_then HBW.out HBW.out.size HB3.out)) : P := h
theorem zk250 {P : Prop} (h : P := by exact ReadPost.no HN.out (below_set (below_then HBW.out HBW.out.size HB3.out) (Nat.le_refl _))) : P := h
end Go.Proofs
