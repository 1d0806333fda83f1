/- For all observations: what Of tells is what the document says, may be, and is empty just where they are. No condition. -/
import Derived.Test.YtncgjbocgbnkcaaPbM4
namespace Go.Proofs.Ytncgjbocgbnkcaa
set_option linter.unusedVariables false
set_option linter.unusedSimpArgs false
open Go.RowKit Go.Maps Go.Proofs.YtncgjbocgbnkcaaW.PrintWords Go.Proofs.YtncgjbocgbnkcaaW.PrintLast Go.Proofs.YtncgjbocgbnkcaaW.PrintMore Go.Proofs.Ytncgjbocgbnkcaa.Pure Go.Proofs.Ytncgjbocgbnkcaa.Q Go.Proofs.Ytncgjbocgbnkcaa.Hi Go.Proofs.Ytncgjbocgbnkcaa.Ga
set_option maxHeartbeats 8000000 in
set_option maxRecDepth 100000 in
theorem PairOf_no (A0 : Option Addr) (c0 : Nat) (l : List S90) (w : World) (C0 : Kd.C k90 w A0 l.length l) (hc : l.length ≤ c0) (hO : OW l) (hl : 300 < l.length) :
    Calls Try.prog 6 #[.slice A0 l.length c0] w fun e w' => e = .returned (.bool true) ∧ Below w.heap.size w w' := by
  have e1 : decide ((300 : Int) < (l.length : Int)) = true := decide_eq_true (by omega)
  have e2 : decide (300 < l.length) = true := decide_eq_true hl
  have HL := Lib.hid (Below.refl w.heap.size w)
  clear C0 hO hc hl
  go_enter Try.func6, Try.ntmps6
  go_wp2_with (first
    | (go_at_call 25; (with_reducible refine (awake_p _).mono ?_); rintro e w0_ ⟨rfl, hb⟩; have HL_ := HL.out.trans (hb.mono HL.out.size); clear HL; have HL := Lib.hid HL_; clear HL_; clear hb))
  go_ret
  exact ⟨rfl, HL.out⟩
set_option maxHeartbeats 8000000 in
set_option maxRecDepth 100000 in
theorem PairOf_yes (A0 : Option Addr) (c0 : Nat) (l : List S90) (w : World) (C0 : Kd.C k90 w A0 l.length l) (hc : l.length ≤ c0) (hO : OW l) (hl : l.length ≤ 300) (s : SV) (hs : ofV l = s) :
    Calls Try.prog 6 #[.slice A0 l.length c0] w fun e w' => e = .returned (.bool true) ∧ Below w.heap.size w w' := by
  have e1 : decide ((300 : Int) < (l.length : Int)) = false := decide_eq_false (by omega)
  have e2 : decide (300 < l.length) = false := decide_eq_false (by omega)
  have hu62 := Try.underlying45
  have hok := ofV_wf hO (show l.length ≤ 1000 by omega)
  have hem := ofV_empty l
  rw [hs] at hok hem
  obtain ⟨r, hr⟩ : ∃ r, ((l.length : Int) == 0) = r := ⟨_, rfl⟩
  rw [hr] at hem
  have hrr : (r == r) = true := by cases r <;> rfl
  have hr2 : (l.length == 0) = r := by rw [← hr, Bool.eq_iff_iff, beq_iff_eq, beq_iff_eq]; omega
  have HOK := Lib.hid hok; have HEM := Lib.hid hem; have HS := Lib.hid hs
  have HC0 := Lib.hid C0; have HO := Lib.hid hO; have HLM := Lib.hid (show l.length ≤ 1000 by omega)
  have HL := Lib.hid (Below.refl w.heap.size w)
  have HCW := Lib.hid hc
  clear hok hem hs C0 hO hc hl
  go_enter Try.func6, Try.ntmps6
  go_wp2_with (first
    | ((with_reducible refine gate_builtin (b := .append) (xs := #[.const (.slice none 0 0), .tmp 9]) rfl ?_); at_builtin; refine Kd.R_append_rows k90 (w0 := w) w.heap.size rfl (.const (.slice none 0 0)) (.tmp 9) 39 90 (.agg #[(.int .u64 0), .string ByteArray.empty, (.int .u64 0)]) 32 rfl Try.underlying39 info90_ rfl (by decide) (by omega) (.slice none 0 0) ([] : List S90) l _ _ _ (fun _ => True) (fun _ => False) rfl rfl ?aO ?aR (fun _ _ h => h) (fun _ h => h.elim) ?aF ?aB ?aS ?aL ?_; (case aR => exact HC0.out); (case aB => exact HL.out); (case aF => exact (fun _ _ => trivial)); (case aO => exact (Kd.R_nil _ _ _ _ (fun _ => True))); (case aS => exact HL.out.size); (case aL => have := HLM.out; (try simp only [List.length_nil, List.length_append]); omega); intro v_ w_ ho hb hg hat; have ho2 : Kd.R k90 90 w_ w.heap.size (fun _ => True) v_ l := ho; obtain ⟨A1, c1, rfl, hc1, hC1⟩ := Kd.R_reads ho2; have HC1 := Lib.hid hC1; have n_ := hb; clear HL; have HL := Lib.hid n_; clear n_ ho ho2 hb hg hat hc1 hC1)
    | (go_at_call 26; (with_reducible refine (ofV_any HC1.out HO.out HLM.out HS.out).mono ?_); rintro e w1_ ⟨A2, c2, B2, d2, rfl, k_, hb⟩; have M1 := Lib.hid k_; have n_ := HL.out.trans (hb.mono HL.out.size); clear HL HC1; have HL := Lib.hid n_; clear n_ hb k_))
  refine name_world _ (fun WX HX => ?_)
  have M1_ := M1.out.alloc (.cells #[.slice A2 s.h.length c2, .slice B2 s.k.length d2, .int .u64 s.g.n, .int .u64 s.g.nans, .int .u64 s.g.lo, .int .u64 s.g.hi] 45)
  have HL_ := below_alloc HL.out (.cells #[.slice A2 s.h.length c2, .slice B2 s.k.length d2, .int .u64 s.g.n, .int .u64 s.g.nans, .int .u64 s.g.lo, .int .u64 s.g.hi] 45)
  have HB1_ := blk_new w1_ (.cells #[.slice A2 s.h.length c2, .slice B2 s.k.length d2, .int .u64 s.g.n, .int .u64 s.g.nans, .int .u64 s.g.lo, .int .u64 s.g.hi] 45)
  rw [HX.out] at M1_ HL_ HB1_
  clear M1; have M1 := Lib.hid M1_; clear M1_
  clear HL; have HL := Lib.hid HL_; clear HL_
  have HB1 := Lib.hid HB1_; clear HB1_ HX
  have T0 := Lib.hid True.intro
  have T1 := Lib.hid True.intro
  have HB1_ := blk_drew HB1.out; clear HB1; have HB1 := Lib.hid HB1_; clear HB1_
  have M1_ := M1.out.below (below_drew (Below.refl _ _)) (Nat.le_refl _); clear M1; have M1 := Lib.hid M1_; clear M1_
  have HL_ := below_drew HL.out; clear HL; have HL := Lib.hid HL_; clear HL_
  go_region_held3 (fun w' => w'.cell? ⟨w1_.heap.size, 0, none⟩ = some (.slice A2 s.h.length c2) ∧ w'.cell? ⟨w1_.heap.size, 1, none⟩ = some (.slice B2 s.k.length d2) ∧ w'.cell? ⟨w1_.heap.size, 2, none⟩ = some (.int .u64 s.g.n) ∧ w'.cell? ⟨w1_.heap.size, 3, none⟩ = some (.int .u64 s.g.nans) ∧ w'.cell? ⟨w1_.heap.size, 4, none⟩ = some (.int .u64 s.g.lo) ∧ w'.cell? ⟨w1_.heap.size, 5, none⟩ = some (.int .u64 s.g.hi))
      (exact ⟨blk_cell HB1.out 0, blk_cell HB1.out 1, blk_cell HB1.out 2, blk_cell HB1.out 3, blk_cell HB1.out 4, blk_cell HB1.out 5⟩)
      (first
        | (go_at_call 28; (with_reducible refine (rofV_any (Kd.C_below HC0.out HL.out) HO.out HLM.out HS.out).mono ?_); rintro e w20_ ⟨A3, c3, B3, d3, rfl, k_, hb⟩; have HB1_ := (hb.block _ (blk_lt HB1.out)).trans HB1.out; clear HB1; have HB1 := Lib.hid HB1_; clear HB1_; have M1_ := M1.out.below hb (Nat.le_refl _); clear M1; have M1 := Lib.hid M1_; clear M1_; have HL_ := HL.out.trans (hb.mono HL.out.size); clear HL; have HL := Lib.hid HL_; clear HL_; have M2 := Lib.hid k_; clear k_; clear hb)
        | (go_at_call 27; (with_reducible refine (rsameV M1.out M2.out).mono ?_); rintro e w21_ ⟨rfl, hb⟩; clear M2; have HB1_ := (hb.block _ (blk_lt HB1.out)).trans HB1.out; clear HB1; have HB1 := Lib.hid HB1_; clear HB1_; have M1_ := M1.out.below hb (Nat.le_refl _); clear M1; have M1 := Lib.hid M1_; clear M1_; have HL_ := HL.out.trans (hb.mono HL.out.size); clear HL; have HL := Lib.hid HL_; clear HL_; clear hb)
        | (go_at_call 29; (with_reducible refine (checkV M1.out HOK.out.1 HOK.out.2).mono ?_); rintro e w22_ ⟨rfl, hb⟩; have HB1_ := (hb.block _ (blk_lt HB1.out)).trans HB1.out; clear HB1; have HB1 := Lib.hid HB1_; clear HB1_; have M1_ := M1.out.below hb (Nat.le_refl _); clear M1; have M1 := Lib.hid M1_; clear M1_; have HL_ := HL.out.trans (hb.mono HL.out.size); clear HL; have HL := Lib.hid HL_; clear HL_; clear hb)
        | (go_at_call 30; (with_reducible refine (emptyV M1.out HEM.out).mono ?_); rintro e w23_ ⟨rfl, hb⟩; have HB1_ := (hb.block _ (blk_lt HB1.out)).trans HB1.out; clear HB1; have HB1 := Lib.hid HB1_; clear HB1_; have M1_ := M1.out.below hb (Nat.le_refl _); clear M1; have M1 := Lib.hid M1_; clear M1_; have HL_ := HL.out.trans (hb.mono HL.out.size); clear HL; have HL := Lib.hid HL_; clear HL_; clear hb)
        | (go_at_call 25; (with_reducible refine (awake_p _).mono ?_); rintro e w24_ ⟨rfl, hb⟩; have HB1_ := (hb.block _ (blk_lt HB1.out)).trans HB1.out; clear HB1; have HB1 := Lib.hid HB1_; clear HB1_; have M1_ := M1.out.below hb (Nat.le_refl _); clear M1; have M1 := Lib.hid M1_; clear M1_; have HL_ := HL.out.trans (hb.mono HL.out.size); clear HL; have HL := Lib.hid HL_; clear HL_; clear hb))
  go_wp2
  go_ret
  exact ⟨rfl, HL.out⟩
end Go.Proofs.Ytncgjbocgbnkcaa
namespace Go.Proofs.Ytncgjbocgbnkcaa.Pure
set_option linter.unusedVariables false
set_option linter.unusedSimpArgs false
open Go.RowKit Go.Proofs.YtncgjbocgbnkcaaW.PrintWords Go.Proofs.Ytncgjbocgbnkcaa.Hi Go.Proofs.Ytncgjbocgbnkcaa.Ga
theorem PairOf_walk (A0 : Option Addr) (c0 : Nat) (l : List S90) (w : World) (C0 : Kd.C k90 w A0 l.length l) (m0 : l.length ≤ c0) (w0 : Pure.WO l) :
    Calls Try.prog 6 #[.slice A0 l.length c0] w fun e w' => e = .returned (.bool true) ∧ Below w.heap.size w w' := by
  by_cases hl : 300 < l.length
  · exact PairOf_no A0 c0 l w C0 m0 w0.ow hl
  · exact PairOf_yes A0 c0 l w C0 m0 w0.ow (by omega) _ rfl
end Go.Proofs.Ytncgjbocgbnkcaa.Pure
