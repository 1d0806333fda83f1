/- For all observations, cut anywhere, in any order: they come to the same. No condition. -/
import Derived.Test.YtncgjbocgbnkcaaPaM3
namespace Go.Proofs.Ytncgjbocgbnkcaa
set_option linter.unusedVariables false
set_option linter.unusedSimpArgs false
open Go.RowKit Go.Maps Go.Proofs.YtncgjbocgbnkcaaW.PrintWords Go.Proofs.YtncgjbocgbnkcaaW.PrintLast Go.Proofs.YtncgjbocgbnkcaaW.PrintMore Go.Proofs.Ytncgjbocgbnkcaa.Pure Go.Proofs.Ytncgjbocgbnkcaa.Q Go.Proofs.Ytncgjbocgbnkcaa.Hi Go.Proofs.Ytncgjbocgbnkcaa.Ga
set_option maxHeartbeats 8000000 in
set_option maxRecDepth 100000 in
theorem Parts_no (A0 : Option Addr) (c0 : Nat) (l : List S90) (a1 a2 : Int) (w : World) (C0 : Kd.C k90 w A0 l.length l) (hc : l.length ≤ c0) (hO : OW l) (hl : 200 < l.length) :
    Calls Try.prog 12 #[.slice A0 l.length c0, .int .i64 a1, .int .i64 a2] w fun e w' => e = .returned (.bool true) ∧ Below w.heap.size w w' := by
  have e1 : decide ((200 : Int) < (l.length : Int)) = true := decide_eq_true (by omega)
  have e2 : decide (200 < l.length) = true := decide_eq_true hl
  have HL := Lib.hid (Below.refl w.heap.size w)
  clear C0 hO hc hl
  go_enter Try.func12, Try.ntmps12
  go_wp2_with (first
    | (go_at_call 25; (with_reducible refine (awake_p _).mono ?_); rintro e w0_ ⟨rfl, hb⟩; have HL_ := HL.out.trans (hb.mono HL.out.size); clear HL; have HL := Lib.hid HL_; clear HL_; clear hb))
  go_ret
  exact ⟨rfl, HL.out⟩
set_option maxHeartbeats 8000000 in
set_option maxRecDepth 100000 in
theorem Parts_yes (A0 : Option Addr) (c0 : Nat) (l : List S90) (a1 a2 : Int) (w : World) (C0 : Kd.C k90 w A0 l.length l) (hc : l.length ≤ c0) (hO : OW l) (hl : l.length ≤ 200) (k n : Nat) (hk : k ≤ l.length) (hn : n ≤ l.length) (pk : varvelaw00_Place.f a1 ((l.length : Int) + 1) = some (k : Int)) (pn : varvelaw00_Place.f a2 ((l.length : Int) + 1) = some (n : Int)) (s1 s2 s : SV) (h1 : ofV (l.take k) = s1) (h2 : ofV (l.drop k) = s2) (h3 : ofV l = s) (h4 : ofV (l.drop n ++ l.take n) = s) (h5 : sumV [s2, s1] = s) (ha : AllOk [s2, s1]) :
    Calls Try.prog 12 #[.slice A0 l.length c0, .int .i64 a1, .int .i64 a2] w fun e w' => e = .returned (.bool true) ∧ Below w.heap.size w w' := by
  have e1 : decide ((200 : Int) < (l.length : Int)) = false := decide_eq_false (by omega)
  have e2 : decide (200 < l.length) = false := decide_eq_false (by omega)
  have hu62 := Try.underlying45
  have PL1 := fun W => varvelaw00_Place.calls a1 ((l.length : Int) + 1) (k : Int) W pk
  have PL2 := fun W => varvelaw00_Place.calls a2 ((l.length : Int) + 1) (n : Int) W pn
  have q1 := fun W => cut_h (A := A0) hk hc W
  have q2 := fun W => cut_h (A := A0) hn hc W
  obtain ⟨D1, q3, t3⟩ := cut_l (A := A0) hk hc
  obtain ⟨D2, q4, t4⟩ := cut_l (A := A0) hn hc
  have t1 := fun W (h : OC W A0 l) => (Kd.C_take h hk : OC W A0 (l.take k))
  have t2 := fun W (h : OC W A0 l) => (Kd.C_take h hn : OC W A0 (l.take n))
  have lm1 : (l.take k).length ≤ 200 := by rw [List.length_take]; omega
  have lm2 : (l.drop k).length ≤ 200 := by rw [List.length_drop]; omega
  have lm3 : (l.take n).length ≤ 200 := by rw [List.length_take]; omega
  have lm4 : (l.drop n).length ≤ 200 := by rw [List.length_drop]; omega
  have ow1 := hO.take k
  have ow2 := hO.drop k
  have ow3 : OW (l.drop n ++ l.take n) := fun o ho => (List.mem_append.1 ho).elim (fun h => hO o (List.mem_of_mem_drop h)) (fun h => hO o (List.mem_of_mem_take h))
  obtain ⟨l1, g1⟩ : ∃ x, l.take k = x := ⟨_, rfl⟩
  obtain ⟨l2, g2⟩ : ∃ x, l.drop k = x := ⟨_, rfl⟩
  obtain ⟨l3, g3⟩ : ∃ x, l.take n = x := ⟨_, rfl⟩
  obtain ⟨l4, g4⟩ : ∃ x, l.drop n = x := ⟨_, rfl⟩
  rw [g1] at q1 t1 lm1 ow1 h1
  rw [g2] at q3 t3 lm2 ow2 h2
  rw [g3] at q2 t2 lm3 ow3 h4
  rw [g4] at q4 t4 lm4 ow3 h4
  have lm5 : (l4 ++ l3).length ≤ 400 := by rw [List.length_append]; omega
  obtain ⟨l5, g5⟩ : ∃ x, l4 ++ l3 = x := ⟨_, rfl⟩
  rw [g5] at ow3 h4 lm5
  have L0 := Lib.hid (show OC w A0 l from C0); have HO := Lib.hid hO
  have LM0 := Lib.hid (show l.length ≤ 200 by omega)
  have LM1 := Lib.hid lm1; have LM2 := Lib.hid lm2; have LM3 := Lib.hid lm3; have LM4 := Lib.hid lm4; have LM5 := Lib.hid lm5; have LM6 := Lib.hid (show l4.length + l3.length ≤ 400 by omega)
  have E1 := Lib.hid h1; have E2 := Lib.hid h2; have E3 := Lib.hid h3; have E4 := Lib.hid h4; have E5 := Lib.hid h5; have AL := Lib.hid ha; have G5 := Lib.hid g5
  have T1f := Lib.hid t1; have T2f := Lib.hid t2; have T3f := Lib.hid t3; have T4f := Lib.hid t4
  have OW1 := Lib.hid ow1; have OW2 := Lib.hid ow2; have OW3 := Lib.hid ow3
  have HL := Lib.hid (Below.refl w.heap.size w)
  clear C0 hO hc hk hn pk pn h1 h2 h3 h4 h5 ha t1 t2 t3 t4 ow1 ow2 ow3 lm1 lm2 lm3 lm4 lm5 g1 g2 g3 g4 g5
  have T0 := Lib.hid True.intro
  have T1 := Lib.hid True.intro
  have T2 := Lib.hid True.intro
  have T3 := Lib.hid True.intro
  have T4 := Lib.hid True.intro
  have T5 := Lib.hid True.intro
  go_enter Try.func12, Try.ntmps12
  go_wp2_with (first
    | (go_at_call 46; clear T0; (with_reducible refine (PL1 _).mono ?_); rintro e w0_ ⟨rfl, hd⟩; have hb := hd.below; clear hd PL1; have L0_ := L0.out.below hb (Nat.le_refl _); clear L0; have L0 := Lib.hid L0_; clear L0_; have HL_ := HL.out.trans (hb.mono HL.out.size); clear HL; have HL := Lib.hid HL_; clear HL_; clear hb)
    | ((with_reducible refine gate_builtin (b := .append) (xs := #[.const (.slice none 0 0), .tmp 25]) rfl ?_); at_builtin; refine Kd.R_append_rows k90 (w0 := w) w.heap.size rfl (.const (.slice none 0 0)) (.tmp 25) 39 90 (.agg #[(.int .u64 0), .string ByteArray.empty, (.int .u64 0)]) 32 rfl Try.underlying39 info90_ rfl (by decide) (by omega) (.slice none 0 0) ([] : List S90) (l1) A0 _ _ (fun _ => True) (fun _ => False) rfl rfl ?aO ?aR (fun _ _ h => h) (fun _ h => h.elim) ?aF ?aB ?aS ?aL ?_; (case aR => exact T1f.out _ L0.out); (case aB => exact HL.out); (case aF => exact (fun _ _ => trivial)); (case aO => exact Kd.R_nil _ _ _ _ (fun _ => True)); (case aS => exact HL.out.size); (case aL => have := LM1.out; (try simp only [List.length_nil, List.length_append]); omega); intro v_ w1_ ho hbL hg hat; have ho2 : Kd.R k90 90 w1_ w.heap.size (fun _ => True) v_ (l1) := ho; have hb := below_grown_nil hg; obtain ⟨A1, c1, rfl, hc_, k_⟩ := Kd.R_reads ho2; have k2_ : OC w1_ A1 (l1) := k_; clear ho ho2 hbL hg hat hc_ k_; have L0_ := L0.out.below hb (Nat.le_refl _); clear L0; have L0 := Lib.hid L0_; clear L0_; have HL_ := HL.out.trans (hb.mono HL.out.size); clear HL; have HL := Lib.hid HL_; clear HL_; have C1 := Lib.hid k2_; clear k2_; clear hb)
    | (go_at_call 26; clear T1; (with_reducible refine (ofV_any C1.out OW1.out (by have := LM1.out; omega) E1.out).mono ?_); rintro e w2_ ⟨A2, c2, B2, d2, rfl, k_, hb⟩; clear C1; have L0_ := L0.out.below hb (Nat.le_refl _); clear L0; have L0 := Lib.hid L0_; clear L0_; have HL_ := HL.out.trans (hb.mono HL.out.size); clear HL; have HL := Lib.hid HL_; clear HL_; have M1 := Lib.hid k_; clear k_; clear hb)
    | ((with_reducible refine gate_builtin (b := .append) (xs := #[.const (.slice none 0 0), .tmp 30]) rfl ?_); at_builtin; refine Kd.R_append_rows k90 (w0 := w) w.heap.size rfl (.const (.slice none 0 0)) (.tmp 30) 39 90 (.agg #[(.int .u64 0), .string ByteArray.empty, (.int .u64 0)]) 32 rfl Try.underlying39 info90_ rfl (by decide) (by omega) (.slice none 0 0) ([] : List S90) (l2) D1 _ _ (fun _ => True) (fun _ => False) rfl rfl ?aO ?aR (fun _ _ h => h) (fun _ h => h.elim) ?aF ?aB ?aS ?aL ?_; (case aR => exact T3f.out _ (L0.out.alloc _)); (case aB => exact (below_alloc HL.out _)); (case aF => exact (fun _ _ => trivial)); (case aO => exact Kd.R_nil _ _ _ _ (fun _ => True)); (case aS => exact (below_alloc HL.out _).size); (case aL => have := LM2.out; (try simp only [List.length_nil, List.length_append]); omega); intro v_ w3_ ho hbL hg hat; have ho2 : Kd.R k90 90 w3_ w.heap.size (fun _ => True) v_ (l2) := ho; have hb := below_grown_nil hg; obtain ⟨A3, c3, rfl, hc_, k_⟩ := Kd.R_reads ho2; have k2_ : OC w3_ A3 (l2) := k_; clear ho ho2 hbL hg hat hc_ k_; have hn_ := new_below hb; have hb2 := below_of_alloc hb; have L0_ := L0.out.below hb2 (Nat.le_refl _); clear L0; have L0 := Lib.hid L0_; clear L0_; have M1_ := M1.out.below hb2 (Nat.le_refl _); clear M1; have M1 := Lib.hid M1_; clear M1_; have HL_ := HL.out.trans (hb2.mono HL.out.size); clear HL; have HL := Lib.hid HL_; clear HL_; have HB1 := Lib.hid hn_; clear hn_; have C2 := Lib.hid k2_; clear k2_; clear hb hb2)
    | (go_at_call 26; clear T2; (with_reducible refine (ofV_any C2.out OW2.out (by have := LM2.out; omega) E2.out).mono ?_); rintro e w4_ ⟨A4, c4, B4, d4, rfl, k_, hb⟩; clear C2; have HB1_ := (hb.block _ (blk_lt HB1.out)).trans HB1.out; clear HB1; have HB1 := Lib.hid HB1_; clear HB1_; have L0_ := L0.out.below hb (Nat.le_refl _); clear L0; have L0 := Lib.hid L0_; clear L0_; have M1_ := M1.out.below hb (Nat.le_refl _); clear M1; have M1 := Lib.hid M1_; clear M1_; have HL_ := HL.out.trans (hb.mono HL.out.size); clear HL; have HL := Lib.hid HL_; clear HL_; have M2 := Lib.hid k_; clear k_; clear hb; obtain ⟨HB1c0, HB1c1, HB1c2, HB1c3, HB1c4, HB1c5⟩ := box6 HB1.out; have HB1lt := blk_lt HB1.out)
    | (go_at_call 44; (with_reducible refine (sum2_okA (M2.out.alloc _) (M1.out.alloc _) (by simp) AL.out E5.out).mono ?_); rintro e w5_ ⟨A5, c5, B5, d5, rfl, k_, hb⟩; have hn_ := new_below hb; have hb2 := below_of_alloc hb; clear M1; clear M2; clear HB1c0 HB1c1 HB1c2 HB1c3 HB1c4 HB1c5 HB1lt; have HB1_ := (hb2.block _ (blk_lt HB1.out)).trans HB1.out; clear HB1; have HB1 := Lib.hid HB1_; clear HB1_; have L0_ := L0.out.below hb2 (Nat.le_refl _); clear L0; have L0 := Lib.hid L0_; clear L0_; have HL_ := HL.out.trans (hb2.mono HL.out.size); clear HL; have HL := Lib.hid HL_; clear HL_; have HB2 := Lib.hid hn_; clear hn_; have M3 := Lib.hid k_; clear k_; clear hb hb2)
    | (go_at_call 46; (with_reducible refine (PL2 _).mono ?_); rintro e w6_ ⟨rfl, hd⟩; have hb := hd.below; clear hd PL2; have hn_ := new_below hb; have hb2 := below_of_alloc hb; clear HB1; clear HB2; have L0_ := L0.out.below hb2 (Nat.le_refl _); clear L0; have L0 := Lib.hid L0_; clear L0_; have M3_ := M3.out.below hb2 (Nat.le_refl _); clear M3; have M3 := Lib.hid M3_; clear M3_; have HL_ := HL.out.trans (hb2.mono HL.out.size); clear HL; have HL := Lib.hid HL_; clear HL_; have HB3 := Lib.hid hn_; clear hn_; clear hb hb2))
  have HX := Lib.hid (below_drew (Below.refl w6_.heap.size w6_))
  have U0 := Lib.hid True.intro
  have U1 := Lib.hid True.intro
  have U2 := Lib.hid True.intro
  have U3 := Lib.hid True.intro
  have U4 := Lib.hid True.intro
  have U5 := Lib.hid True.intro
  go_region_held3 (fun _ => True)
      (exact trivial)
      (first
        | (clear U0; refine Kd.R_append_rows_step k90 (w0 := w6_) w6_.heap.size (by rfl) (.tmp 45) (.tmp 48) 39 90 (.agg #[(.int .u64 0), .string ByteArray.empty, (.int .u64 0)]) 32 rfl Try.underlying39 info90_ rfl (by decide) (by omega) (.slice none 0 0) ([] : List S90) (l4) D2 _ _ (fun _ => True) (fun _ => False) rfl rfl ?aO ?aR (fun _ _ h => h) (fun _ h => h.elim) ?aF ?aB ?aS ?aL ?_; (case aR => exact T4f.out _ (L0.out.below HX.out (Nat.le_refl _))); (case aB => exact HX.out); (case aF => exact (fun _ _ => trivial)); (case aO => exact Kd.R_nil _ _ _ _ (fun _ => True)); (case aS => exact HX.out.size); (case aL => have := LM4.out; (try simp only [List.length_nil, List.length_append]); omega); intro v_ w30_ ho hbL hg hat; have ho2 : Kd.R k90 90 w30_ w6_.heap.size (fun _ => True) v_ (l4) := ho; have hb := below_grown_nil hg; obtain ⟨A7, c7, rfl, hc_, k_⟩ := Kd.R_reads ho2; have HR7 := Lib.hid ho2; clear HX; have HX := Lib.hid hbL; clear ho ho2 hbL hg hat hc_ k_ hb)
        | (clear U1; refine Kd.R_append_rows_step k90 (w0 := w6_) w6_.heap.size (by rfl) (.tmp 49) (.tmp 52) 39 90 (.agg #[(.int .u64 0), .string ByteArray.empty, (.int .u64 0)]) 32 rfl Try.underlying39 info90_ rfl (by decide) (by omega) (.slice A7 l4.length c7) l4 (l3) A0 _ _ (fun _ => True) (fun _ => False) rfl rfl ?aO ?aR (fun _ _ h => h) (fun _ h => h.elim) ?aF ?aB ?aS ?aL ?_; (case aR => exact T2f.out _ (L0.out.below HX.out (Nat.le_refl _))); (case aB => exact HX.out); (case aF => exact (fun _ _ => trivial)); (case aO => exact HR7.out); (case aS => exact HX.out.size); (case aL => have := LM6.out; (try simp only [List.length_nil, List.length_append]); omega); intro v_ w31_ ho hbL hg hat; have ho2 := ho; rw [G5.out] at ho2; obtain ⟨A8, c8, rfl, hc_, k_⟩ := Kd.R_reads ho2; have C5 := Lib.hid (show OC w31_ A8 l5 from k_); clear HX; have HX := Lib.hid hbL; clear ho ho2 hbL hg hat hc_ k_ HR7))
  go_wp2
  have HB3_ := (HX.out.block _ (blk_lt HB3.out)).trans HB3.out; clear HB3; have HB3 := Lib.hid HB3_; clear HB3_
  have L0_ := L0.out.below HX.out (Nat.le_refl _); clear L0; have L0 := Lib.hid L0_; clear L0_
  have M3_ := M3.out.below HX.out (Nat.le_refl _); clear M3; have M3 := Lib.hid M3_; clear M3_
  have HL_ := HL.out.trans (HX.out.mono HL.out.size); clear HL HX; have HL := Lib.hid HL_; clear HL_
  have HB3_ := blk_drew HB3.out; clear HB3; have HB3 := Lib.hid HB3_; clear HB3_
  have L0_ := L0.out.below (below_drew (Below.refl _ _)) (Nat.le_refl _); clear L0; have L0 := Lib.hid L0_; clear L0_
  have M3_ := M3.out.below (below_drew (Below.refl _ _)) (Nat.le_refl _); clear M3; have M3 := Lib.hid M3_; clear M3_
  have C5_ := C5.out.below (below_drew (Below.refl _ _)) (Nat.le_refl _); clear C5; have C5 := Lib.hid C5_; clear C5_
  have HL_ := below_drew HL.out; clear HL; have HL := Lib.hid HL_; clear HL_
  go_region_held3 (fun w' => w'.cell? ⟨w5_.heap.size, 0, none⟩ = some (.slice A5 s.h.length c5) ∧ w'.cell? ⟨w5_.heap.size, 1, none⟩ = some (.slice B5 s.k.length d5) ∧ w'.cell? ⟨w5_.heap.size, 2, none⟩ = some (.int .u64 s.g.n) ∧ w'.cell? ⟨w5_.heap.size, 3, none⟩ = some (.int .u64 s.g.nans) ∧ w'.cell? ⟨w5_.heap.size, 4, none⟩ = some (.int .u64 s.g.lo) ∧ w'.cell? ⟨w5_.heap.size, 5, none⟩ = some (.int .u64 s.g.hi))
      (exact ⟨blk_cell HB3.out 0, blk_cell HB3.out 1, blk_cell HB3.out 2, blk_cell HB3.out 3, blk_cell HB3.out 4, blk_cell HB3.out 5⟩)
      (first
        | (refine Kd.R_append_rows_step k90 (w0 := w) w.heap.size (by rfl) (.const (.slice none 0 0)) (.tmp 58) 39 90 (.agg #[(.int .u64 0), .string ByteArray.empty, (.int .u64 0)]) 32 rfl Try.underlying39 info90_ rfl (by decide) (by omega) (.slice none 0 0) ([] : List S90) (l) A0 _ _ (fun _ => True) (fun _ => False) rfl rfl ?aO ?aR (fun _ _ h => h) (fun _ h => h.elim) ?aF ?aB ?aS ?aL ?_; (case aR => exact L0.out); (case aB => exact HL.out); (case aF => exact (fun _ _ => trivial)); (case aO => exact Kd.R_nil _ _ _ _ (fun _ => True)); (case aS => exact HL.out.size); (case aL => have := LM0.out; (try simp only [List.length_nil, List.length_append]); omega); intro v_ w50_ ho hbL hg hat; have ho2 : Kd.R k90 90 w50_ w.heap.size (fun _ => True) v_ (l) := ho; have hb := below_grown_nil hg; obtain ⟨A9, c9, rfl, hc_, k_⟩ := Kd.R_reads ho2; have k2_ : OC w50_ A9 (l) := k_; clear ho ho2 hbL hg hat hc_ k_; have HB3_ := (hb.block _ (blk_lt HB3.out)).trans HB3.out; clear HB3; have HB3 := Lib.hid HB3_; clear HB3_; have L0_ := L0.out.below hb (Nat.le_refl _); clear L0; have L0 := Lib.hid L0_; clear L0_; have M3_ := M3.out.below hb (Nat.le_refl _); clear M3; have M3 := Lib.hid M3_; clear M3_; have C5_ := C5.out.below hb (Nat.le_refl _); clear C5; have C5 := Lib.hid C5_; clear C5_; have HL_ := HL.out.trans (hb.mono HL.out.size); clear HL; have HL := Lib.hid HL_; clear HL_; have C6 := Lib.hid k2_; clear k2_; clear hb)
        | (go_at_call 26; clear U2; (with_reducible refine (ofV_any C6.out HO.out (by have := LM0.out; omega) E3.out).mono ?_); rintro e w51_ ⟨A10, c10, B10, d10, rfl, k_, hb⟩; clear C6; have HB3_ := (hb.block _ (blk_lt HB3.out)).trans HB3.out; clear HB3; have HB3 := Lib.hid HB3_; clear HB3_; have L0_ := L0.out.below hb (Nat.le_refl _); clear L0; have L0 := Lib.hid L0_; clear L0_; have M3_ := M3.out.below hb (Nat.le_refl _); clear M3; have M3 := Lib.hid M3_; clear M3_; have C5_ := C5.out.below hb (Nat.le_refl _); clear C5; have C5 := Lib.hid C5_; clear C5_; have HL_ := HL.out.trans (hb.mono HL.out.size); clear HL; have HL := Lib.hid HL_; clear HL_; have M6 := Lib.hid k_; clear k_; clear hb)
        | (go_at_call 42; clear U3; (with_reducible refine (sameV M3.out M6.out).mono ?_); rintro e w52_ ⟨rfl, hb⟩; clear M6; have HB3_ := (hb.block _ (blk_lt HB3.out)).trans HB3.out; clear HB3; have HB3 := Lib.hid HB3_; clear HB3_; have L0_ := L0.out.below hb (Nat.le_refl _); clear L0; have L0 := Lib.hid L0_; clear L0_; have M3_ := M3.out.below hb (Nat.le_refl _); clear M3; have M3 := Lib.hid M3_; clear M3_; have C5_ := C5.out.below hb (Nat.le_refl _); clear C5; have C5 := Lib.hid C5_; clear C5_; have HL_ := HL.out.trans (hb.mono HL.out.size); clear HL; have HL := Lib.hid HL_; clear HL_; clear hb)
        | (go_at_call 26; clear U4; (with_reducible refine (ofV_any C5.out OW3.out (by have := LM5.out; omega) E4.out).mono ?_); rintro e w53_ ⟨A11, c11, B11, d11, rfl, k_, hb⟩; clear C5; have HB3_ := (hb.block _ (blk_lt HB3.out)).trans HB3.out; clear HB3; have HB3 := Lib.hid HB3_; clear HB3_; have L0_ := L0.out.below hb (Nat.le_refl _); clear L0; have L0 := Lib.hid L0_; clear L0_; have M3_ := M3.out.below hb (Nat.le_refl _); clear M3; have M3 := Lib.hid M3_; clear M3_; have HL_ := HL.out.trans (hb.mono HL.out.size); clear HL; have HL := Lib.hid HL_; clear HL_; have M7 := Lib.hid k_; clear k_; clear hb)
        | (go_at_call 42; clear U5; (with_reducible refine (sameV M3.out M7.out).mono ?_); rintro e w54_ ⟨rfl, hb⟩; clear M7; have HB3_ := (hb.block _ (blk_lt HB3.out)).trans HB3.out; clear HB3; have HB3 := Lib.hid HB3_; clear HB3_; have L0_ := L0.out.below hb (Nat.le_refl _); clear L0; have L0 := Lib.hid L0_; clear L0_; have M3_ := M3.out.below hb (Nat.le_refl _); clear M3; have M3 := Lib.hid M3_; clear M3_; have HL_ := HL.out.trans (hb.mono HL.out.size); clear HL; have HL := Lib.hid HL_; clear HL_; clear hb)
        | (go_at_call 25; (with_reducible refine (awake_p _).mono ?_); rintro e w55_ ⟨rfl, hb⟩; have HB3_ := (hb.block _ (blk_lt HB3.out)).trans HB3.out; clear HB3; have HB3 := Lib.hid HB3_; clear HB3_; have L0_ := L0.out.below hb (Nat.le_refl _); clear L0; have L0 := Lib.hid L0_; clear L0_; have M3_ := M3.out.below hb (Nat.le_refl _); clear M3; have M3 := Lib.hid M3_; clear M3_; have HL_ := HL.out.trans (hb.mono HL.out.size); clear HL; have HL := Lib.hid HL_; clear HL_; clear hb))
  go_wp2
  go_ret
  exact ⟨rfl, HL.out⟩
end Go.Proofs.Ytncgjbocgbnkcaa
namespace Go.Proofs.Ytncgjbocgbnkcaa.Pure
set_option linter.unusedVariables false
set_option linter.unusedSimpArgs false
open Go.RowKit Go.Proofs.YtncgjbocgbnkcaaW.PrintWords Go.Proofs.Ytncgjbocgbnkcaa.Hi Go.Proofs.Ytncgjbocgbnkcaa.Ga
theorem PairParts_walk (A0 : Option Addr) (c0 : Nat) (l : List S90) (a1 a2 : Int) (w : World) (C0 : Kd.C k90 w A0 l.length l) (m0 : l.length ≤ c0) (w0 : Pure.WO l) (w1 : (Lit.int .i64 a1).wf = true) (w2 : (Lit.int .i64 a2).wf = true) :
    Calls Try.prog 12 #[.slice A0 l.length c0, .int .i64 a1, .int .i64 a2] w fun e w' => e = .returned (.bool true) ∧ Below w.heap.size w w' := by
  by_cases hl : 200 < l.length
  · exact Parts_no A0 c0 l a1 a2 w C0 m0 w0.ow hl
  obtain ⟨k, pk, hk⟩ := place_p a1 ((l.length : Int) + 1) (by omega) (by omega)
  obtain ⟨n, pn, hn⟩ := place_p a2 ((l.length : Int) + 1) (by omega) (by omega)
  have e1 : l.take k ++ l.drop k = l := List.take_append_drop k l
  have e2 : l.take n ++ l.drop n = l := List.take_append_drop n l
  have o1 : OW (l.take k ++ l.drop k) := by rw [e1]; exact w0.ow
  have o2 : OW (l.take n ++ l.drop n) := by rw [e2]; exact w0.ow
  have v1 := ofV_append o1 (by rw [e1]; omega)
  have v2 := ofV_turn o2 (by rw [e2]; omega)
  rw [e1] at v1
  rw [e2] at v2
  obtain ⟨wa, oa⟩ := ofV_wf (w0.ow.take k) (show (l.take k).length ≤ 1000 by rw [List.length_take]; omega)
  obtain ⟨wb, ob⟩ := ofV_wf (w0.ow.drop k) (show (l.drop k).length ≤ 1000 by rw [List.length_drop]; omega)
  exact Parts_yes A0 c0 l a1 a2 w C0 m0 w0.ow (by omega) k n (by omega) (by omega) pk pn _ _ _ rfl rfl rfl v2 (by rw [v1, sum_comm wb ob wa oa]) (AllOk.two wb ob wa oa)
end Go.Proofs.Ytncgjbocgbnkcaa.Pure
