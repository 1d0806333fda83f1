/- What the laws of this folder share, part 4: walks of functions over their Go text, and plain lemmas. Conditions: as each lemma says. -/
import Derived.Deep.RegionLawGrows
import Derived.Test.YtofgcacahfdjdaaRows
import Derived.Test.YtofgcacahfdjdaaHzM3
namespace Go.Proofs.Ytofgcacahfdjdaa.Pure
set_option linter.unusedVariables false
set_option linter.unusedSimpArgs false
open Go.RowKit Go.Maps Go.Deep Go.Proofs.YtofgcacahfdjdaaW.PrintWords Go.Proofs.YtofgcacahfdjdaaW.PrintLast Go.Proofs.YtofgcacahfdjdaaW.PrintMore Go.Proofs.Ytofgcacahfdjdaa.Hi Go.Proofs.Ytofgcacahfdjdaa.Vt Go.Proofs.Ytofgcacahfdjdaa.Hb
theorem formB_pos (l : List S67) : 0 < (formB l).length := by
  have h1 := encN_pos 0
  have h2 := encN_pos 1
  unfold formB
  split
  · simp only [sparseB, List.length_append]; omega
  · split
    · simp only [denseB, List.length_append]; omega
    · simp only [sparseB, List.length_append]; omega
theorem form_c {W : World} {A : Option Addr} {c : Nat} {l : List S67} (hk : chk l = true) (hn : Bnum l) (h1 : Kd.C k67 W A l.length l) (h2 : l.length ≤ c) :
    Calls Try.prog 36 #[.slice A l.length c] W fun e w' => ∃ A' c', e = .returned (.slice A' (formB l).length c') ∧ (formB l).length ≤ c' ∧ Kd.C (Kd.int .u8) w' A' (formB l).length (formB l) ∧ Below W.heap.size W w' :=
  (hist_form.calls (l.length + 1) A c l (formB l) W h1 h2 (form_eq l hk hn _ (by omega))).mono fun _ _ ⟨v, he, hR, hb⟩ => by
    obtain ⟨A', c', rfl, hc', hC'⟩ := Kd.R_reads hR
    exact ⟨A', c', he, hc', hC', hb⟩
set_option maxRecDepth 100000 in
/-- append behind a slice without room, as one step of a region that draws its order. -/
theorem cap_append {ops : Array Oper} {o : Oper} {a : Act} {K : Act → World → Prop} {Q : Exit → Act → World → Prop} {E : Prop} {W : World} (hgd : o.guard = none) (s x : Operand)
    (ho : o.op = .call { callee := .builtin .append, args := #[s, x], argTypes := #[22, 22] }) (A B : Option Addr) (xs ys : List Int) (m c : Nat) (hs : a.eval s = .slice A xs.length xs.length) (hx : a.eval x = .slice B m c)
    (hC : Kd.C (Kd.int .u8) W A xs.length xs) (HR : Kd.C (Kd.int .u8) W B m ys) (hm : 0 < m) (hl : xs.length + m ≤ 140737488355328)
    (h : ∀ v1 w1, Kd.R (Kd.int .u8) 5 w1 W.heap.size (fun _ => True) v1 (xs ++ ys) → Below W.heap.size W w1 → K (a.put o.dst v1) w1) : if Region.wanted o (yielded ops a.tmps) = true then Oper.wp Try.prog o a W K Q else E := by
  obtain ⟨i0, hi, hzz⟩ := Option.map_eq_some_iff.1 info8
  simp only [Prod.mk.injEq] at hzz
  obtain ⟨hz0, hz1, hz2⟩ := hzz
  have hxs := hC.1
  have hys := HR.1
  have hn : A = none → xs.length = 0 := fun e => by
    rcases Nat.eq_zero_or_pos xs.length with z | z
    · exact z
    · obtain ⟨ad, e', _⟩ := hC.2.2 z
      rw [e] at e'
      cases e'
  obtain ⟨ad, rfl, hcell⟩ := (Kd.reads_of_C (d := (0 : Int)) HR).2.2 hm
  have hM : maxLen = 9223372036854775807 := rfl
  refine step_append_grows hgd s x 22 ho 5 i0 (.int .u8 0) 1 1 Try.underlying22 hi hz0 hz1 hz2 rfl (by decide) A xs.length xs.length (nums .u8 xs) hs (fun e => ⟨hn e, hn e⟩) (by rw [nums, List.length_map]; omega) (fun b hb j u hu => ?_) ad m c (nums .u8 ys) hx (by rw [nums, List.length_map]; omega) (fun j u hu => ?_) (fun u hu => ?_) (by omega) (by omega) (by omega) (fun v' w' h1 h2 => ?_)
  · have hj : j < xs.length := by
      rcases Nat.lt_or_ge j xs.length with q | q
      · exact q
      · rw [List.getElem?_eq_none (by simpa [nums] using q)] at hu; cases hu
    obtain ⟨b', eb, hc⟩ := (Kd.reads_of_C (d := (0 : Int)) hC).2.2 (by omega)
    rw [hb] at eb
    injection eb with eb
    subst eb
    rw [hc j (by omega)]
    simp [nums, List.getElem?_map, List.getElem?_eq_getElem hj] at hu
    subst hu
    simp [List.getD, List.getElem?_eq_getElem hj]
  · have hj : j < ys.length := by
      rcases Nat.lt_or_ge j ys.length with q | q
      · exact q
      · rw [List.getElem?_eq_none (by simpa [nums] using q)] at hu; cases hu
    rw [hcell j (by omega)]
    simp [nums, List.getElem?_map, List.getElem?_eq_getElem hj] at hu
    subst hu
    simp [List.getD, List.getElem?_eq_getElem hj]
  · simp only [nums, List.mem_map] at hu
    obtain ⟨q, _, rfl⟩ := hu
    rfl
  · have e : nums .u8 xs ++ nums .u8 ys = encs (Value.int .u8) (xs ++ ys) := by simp [nums, encs]
    rw [e] at h1
    have h3 : w'.ownsRow W.heap.size 5 1 v' (xs ++ ys).length (encs (Value.int .u8) (xs ++ ys)) := by rw [List.length_append, hys]; exact h1
    exact h v' w' (Kd.R_of_own h3 (fun _ _ => trivial)) ⟨h2.os, h2.tape, h2.output, h2.size, fun k hk => h2.block k (by omega) (by simp)⟩
set_option maxHeartbeats 4000000 in
set_option maxRecDepth 100000 in
theorem hput_r {A : Option Addr} {c : Nat} {xs : List Int} {B : Option Addr} {d : Nat} {l : List S67} {w : World} (hC : Kd.C (Kd.int .u8) w A xs.length xs) (hc : xs.length ≤ c) (hL : Kd.C k67 w B l.length l) (hd : l.length ≤ d) (hl : l.length < 8796093022208) (hn : Bnum l) (hx : xs.length + 150000 ≤ 140737488355328) :
    Calls Try.prog 13 #[.slice A xs.length c, .slice B l.length d] w fun e w' => ∃ r, e = .returned r ∧ Kd.R (Kd.int .u8) 5 w' w.heap.size (fun _ => True) r (xs ++ formB (if chk l = true then l else [])) ∧ Below w.heap.size w w' := by
  have CK := Lib.hid (hist_Check.calls (l.length + 1) B d l (chk l) w hL hd (Check_eq l (by omega) _ (by omega)))
  have hcut := cut_own (A := A) hc
  obtain ⟨L, hLe⟩ : ∃ L, (if chk l = true then l else []) = L := ⟨_, rfl⟩
  rw [hLe]
  cases hk : chk l with
  | true =>
    rw [hk, if_pos rfl] at hLe
    subst hLe
    rw [hk] at CK
    have FO := Lib.hid (fun W (h1 : Kd.C k67 W B l.length l) => form_c hk hn h1 hd)
    have hfl := formB_len hk hn
    have hch := chk_len hk
    have HF := Lib.hid (show 0 < (formB l).length ∧ xs.length + (formB l).length ≤ 140737488355328 from ⟨formB_pos l, by omega⟩)
    have HL := Lib.hid hL; have HC := Lib.hid hC
    clear hC hc hL hd hl hn hx hk hfl hch
    go_enter Try.func13, Try.ntmps13
    go_wp2_with (go_at_call 34; (with_reducible refine CK.out.mono ?_); rintro e w1 ⟨rfl, hb1⟩; have HB := Lib.hid hb1; clear hb1 CK)
    refine wp_region_noPanic ?_
    refine start_ (n := 10) (S := fun w' => True) (ds := []) #[false, false, false, false, false, false, false, false, false, false] (by kernel_rfl) rfl rfl trivial (fun hHeld => ?_)
    refine pure_ (i := 0) (N := some 8) (v := ?_) (a' := ?_) #[true, false, false, false, false, false, false, false, false, false] rfl rfl (by kernel_rfl) (fun _ _ _ h => h) (Or.inl ⟨by rfl, ?_⟩) ?_ ?_
    rotate_left
    · intro w'
      go_simp
      with_reducible rfl
    rotate_left
    · simp only [Act.put, List.setIfInBounds_toArray, List.set_cons_zero, List.set_cons_succ, i64_w, i32_w]
      rfl
    refine pure_ (i := 1) (N := some 9) (v := ?_) (a' := ?_) #[true, true, false, false, false, false, false, false, false, false] rfl rfl (by kernel_rfl) (fun _ _ _ h => h) (Or.inl ⟨by rfl, ?_⟩) ?_ ?_
    rotate_left
    · intro w'
      go_simp
      with_reducible rfl
    rotate_left
    · simp only [Act.put, List.setIfInBounds_toArray, List.set_cons_zero, List.set_cons_succ, i64_w, i32_w]
      rfl
    refine pure_ (i := 2) (N := some 10) (v := ?_) (a' := ?_) #[true, true, true, false, false, false, false, false, false, false] rfl rfl (by kernel_rfl) (fun _ _ _ h => h) (Or.inl ⟨by rfl, ?_⟩) ?_ ?_
    rotate_left
    · intro w'
      go_simp
      with_reducible rfl
    rotate_left
    · simp only [Act.put, List.setIfInBounds_toArray, List.set_cons_zero, List.set_cons_succ, i64_w, i32_w]
      rfl
    refine pure_ (i := 3) (N := some 11) (v := ?_) (a' := ?_) #[true, true, true, true, false, false, false, false, false, false] rfl rfl (by kernel_rfl) (fun _ _ _ h => h) (Or.inl ⟨by rfl, ?_⟩) ?_ ?_
    rotate_left
    · intro w'
      go_simp
      with_reducible rfl
    rotate_left
    · simp only [Act.put, List.setIfInBounds_toArray, List.set_cons_zero, List.set_cons_succ, i64_w, i32_w]
      rfl
    refine pure_ (i := 4) (N := some 12) (v := ?_) (a' := ?_) #[true, true, true, true, true, false, false, false, false, false] rfl rfl (by kernel_rfl) (fun _ _ _ h => h) (Or.inl ⟨by rfl, ?_⟩) ?_ ?_
    rotate_left
    · intro w'
      go_simp
      with_reducible rfl
    rotate_left
    · simp only [Act.put, List.setIfInBounds_toArray, List.set_cons_zero, List.set_cons_succ, i64_w, i32_w]
      rfl
    refine pure_ (i := 5) (N := some 13) (v := ?_) (a' := ?_) #[true, true, true, true, true, true, false, false, false, false] rfl rfl (by kernel_rfl) (fun _ _ _ h => h) (Or.inl ⟨by rfl, ?_⟩) ?_ ?_
    rotate_left
    · intro w'
      go_simp
      with_reducible rfl
    rotate_left
    · simp only [Act.put, List.setIfInBounds_toArray, List.set_cons_zero, List.set_cons_succ, i64_w, i32_w]
      rfl
    refine pure_ (i := 6) (N := some 14) (v := ?_) (a' := ?_) #[true, true, true, true, true, true, true, false, false, false] rfl rfl (by kernel_rfl) (fun _ _ _ h => h) (Or.inl ⟨by rfl, ?_⟩) ?_ ?_
    rotate_left
    · intro w'
      go_simp
      with_reducible rfl
    rotate_left
    · simp only [Act.put, List.setIfInBounds_toArray, List.set_cons_zero, List.set_cons_succ, i64_w, i32_w]
      rfl
    refine one_ (i := 7) (N := some 15) #[true, true, true, true, true, true, true, true, false, false] rfl rfl (by kernel_rfl) (by simp) (fun K hK => ?_)
    refine goes_ Try.func36 (by kernel_rfl) rfl #[.slice B l.length d] (by rfl) rfl rfl (by (try simp only [List.map_toArray, List.map_cons, List.map_nil]); first | done | rfl) ?_
    refine (FO.out _ (Kd.C_drew (Kd.C_below HL.out HB.out))).mono ?_
    rintro e w2 ⟨A2, c2, rfl, lc2, hC2, hb2⟩
    refine ⟨_, rfl, ?_⟩
    have HB2 := Lib.hid (below_then (below_drew HB.out) (below_drew HB.out).size hb2); have HC2 := Lib.hid hC2; clear hb2 hC2 lc2 FO HB
    clear hHeld
    refine hK.out _ _ trivial (fun hHeld => ?_)
    clear hK K
    refine norm_ (a' := ?_) ?_ ?_
    rotate_left
    · show Act.put _ (some 15) _ = _
      simp only [Act.put, List.setIfInBounds_toArray, List.set_cons_zero, List.set_cons_succ, i64_w, i32_w]
      rfl
    refine one_ (i := 8) (N := some 16) #[true, true, true, true, true, true, true, true, true, false] rfl rfl (by kernel_rfl) (by simp) (fun K hK => ?_)
    refine cap_append rfl (.tmp 13) (.tmp 15) rfl A A2 xs (formB l) (formB l).length c2 rfl rfl (Kd.C_below HC.out HB2.out) HC2.out HF.out.1 HF.out.2 ?_
    intro v5 w5 ho5 hb5; have HO5 := Lib.hid (Kd.R_lower ho5 HB2.out.size); have HB5 := Lib.hid (below_then HB2.out HB2.out.size hb5); clear ho5 hb5 hHeld
    refine hK.out _ _ trivial (fun hHeld => ?_)
    clear hK K
    refine norm_ (a' := ?_) ?_ ?_
    rotate_left
    · show Act.put _ (some 16) _ = _
      simp only [Act.put, List.setIfInBounds_toArray, List.set_cons_zero, List.set_cons_succ, i64_w, i32_w]
      rfl
    refine pure_ (i := 9) (N := some 4) (v := ?_) (a' := ?_) #[true, true, true, true, true, true, true, true, true, true] rfl rfl (by kernel_rfl) (fun _ _ _ h => h) (Or.inl ⟨by rfl, ?_⟩) ?_ ?_
    rotate_left
    · intro w'
      go_simp
      with_reducible rfl
    rotate_left
    · simp only [Act.put, List.setIfInBounds_toArray, List.set_cons_zero, List.set_cons_succ, i64_w, i32_w]
      rfl
    refine done_ (by kernel_rfl) ?_
    refine NoPanic.normal ?_
    clear hHeld
    go_wp2
    go_ret
    exact ⟨_, rfl, HO5.out, HB5.out⟩
  | false =>
    rw [hk, if_neg (by simp)] at hLe
    subst hLe
    rw [hk] at CK
    have FO := Lib.hid (fun W => form_c (W := W) (A := none) (c := 0) (l := []) rfl (fun x hx => by cases hx) (Kd.C_nil _ _) (Nat.le_refl _))
    have hfl := formB_len (l := []) rfl (fun x hx => by cases hx)
    have HF := Lib.hid (show 0 < (formB []).length ∧ xs.length + (formB []).length ≤ 140737488355328 from ⟨formB_pos [], by rw [List.length_nil] at hfl; omega⟩)
    have HC := Lib.hid hC
    clear hC hc hL hd hl hn hx hk hfl
    obtain ⟨F, hF⟩ : ∃ F, formB ([] : List S67) = F := ⟨_, rfl⟩
    rw [hF] at FO HF ⊢
    clear hF
    go_enter Try.func13, Try.ntmps13
    go_wp2_with (go_at_call 34; (with_reducible refine CK.out.mono ?_); rintro e w1 ⟨rfl, hb1⟩; have HB := Lib.hid hb1; clear hb1 CK)
    refine wp_region_noPanic ?_
    refine start_ (n := 10) (S := fun w' => True) (ds := []) #[false, false, false, false, false, false, false, false, false, false] (by kernel_rfl) rfl rfl trivial (fun hHeld => ?_)
    refine pure_ (i := 0) (N := some 8) (v := ?_) (a' := ?_) #[true, false, false, false, false, false, false, false, false, false] rfl rfl (by kernel_rfl) (fun _ _ _ h => h) (Or.inl ⟨by rfl, ?_⟩) ?_ ?_
    rotate_left
    · intro w'
      go_simp
      with_reducible rfl
    rotate_left
    · simp only [Act.put, List.setIfInBounds_toArray, List.set_cons_zero, List.set_cons_succ, i64_w, i32_w]
      rfl
    refine pure_ (i := 1) (N := some 9) (v := ?_) (a' := ?_) #[true, true, false, false, false, false, false, false, false, false] rfl rfl (by kernel_rfl) (fun _ _ _ h => h) (Or.inl ⟨by rfl, ?_⟩) ?_ ?_
    rotate_left
    · intro w'
      go_simp
      with_reducible rfl
    rotate_left
    · simp only [Act.put, List.setIfInBounds_toArray, List.set_cons_zero, List.set_cons_succ, i64_w, i32_w]
      rfl
    refine pure_ (i := 2) (N := some 10) (v := ?_) (a' := ?_) #[true, true, true, false, false, false, false, false, false, false] rfl rfl (by kernel_rfl) (fun _ _ _ h => h) (Or.inl ⟨by rfl, ?_⟩) ?_ ?_
    rotate_left
    · intro w'
      go_simp
      with_reducible rfl
    rotate_left
    · simp only [Act.put, List.setIfInBounds_toArray, List.set_cons_zero, List.set_cons_succ, i64_w, i32_w]
      rfl
    refine pure_ (i := 3) (N := some 11) (v := ?_) (a' := ?_) #[true, true, true, true, false, false, false, false, false, false] rfl rfl (by kernel_rfl) (fun _ _ _ h => h) (Or.inl ⟨by rfl, ?_⟩) ?_ ?_
    rotate_left
    · intro w'
      go_simp
      with_reducible rfl
    rotate_left
    · simp only [Act.put, List.setIfInBounds_toArray, List.set_cons_zero, List.set_cons_succ, i64_w, i32_w]
      rfl
    refine pure_ (i := 4) (N := some 12) (v := ?_) (a' := ?_) #[true, true, true, true, true, false, false, false, false, false] rfl rfl (by kernel_rfl) (fun _ _ _ h => h) (Or.inl ⟨by rfl, ?_⟩) ?_ ?_
    rotate_left
    · intro w'
      go_simp
      with_reducible rfl
    rotate_left
    · simp only [Act.put, List.setIfInBounds_toArray, List.set_cons_zero, List.set_cons_succ, i64_w, i32_w]
      rfl
    refine pure_ (i := 5) (N := some 13) (v := ?_) (a' := ?_) #[true, true, true, true, true, true, false, false, false, false] rfl rfl (by kernel_rfl) (fun _ _ _ h => h) (Or.inl ⟨by rfl, ?_⟩) ?_ ?_
    rotate_left
    · intro w'
      go_simp
      with_reducible rfl
    rotate_left
    · simp only [Act.put, List.setIfInBounds_toArray, List.set_cons_zero, List.set_cons_succ, i64_w, i32_w]
      rfl
    refine pure_ (i := 6) (N := some 14) (v := ?_) (a' := ?_) #[true, true, true, true, true, true, true, false, false, false] rfl rfl (by kernel_rfl) (fun _ _ _ h => h) (Or.inl ⟨by rfl, ?_⟩) ?_ ?_
    rotate_left
    · intro w'
      go_simp
      with_reducible rfl
    rotate_left
    · simp only [Act.put, List.setIfInBounds_toArray, List.set_cons_zero, List.set_cons_succ, i64_w, i32_w]
      rfl
    refine one_ (i := 7) (N := some 15) #[true, true, true, true, true, true, true, true, false, false] rfl rfl (by kernel_rfl) (by simp) (fun K hK => ?_)
    refine goes_ Try.func36 (by kernel_rfl) rfl #[.slice none 0 0] (by rfl) rfl rfl (by (try simp only [List.map_toArray, List.map_cons, List.map_nil]); first | done | rfl) ?_
    refine (FO.out _).mono ?_
    rintro e w2 ⟨A2, c2, rfl, lc2, hC2, hb2⟩
    refine ⟨_, rfl, ?_⟩
    have HB2 := Lib.hid (below_then (below_drew HB.out) (below_drew HB.out).size hb2); have HC2 := Lib.hid hC2; clear hb2 hC2 lc2 FO HB
    clear hHeld
    refine hK.out _ _ trivial (fun hHeld => ?_)
    clear hK K
    refine norm_ (a' := ?_) ?_ ?_
    rotate_left
    · show Act.put _ (some 15) _ = _
      simp only [Act.put, List.setIfInBounds_toArray, List.set_cons_zero, List.set_cons_succ, i64_w, i32_w]
      rfl
    refine one_ (i := 8) (N := some 16) #[true, true, true, true, true, true, true, true, true, false] rfl rfl (by kernel_rfl) (by simp) (fun K hK => ?_)
    refine cap_append rfl (.tmp 13) (.tmp 15) rfl A A2 xs (F) (F).length c2 rfl rfl (Kd.C_below HC.out HB2.out) HC2.out HF.out.1 HF.out.2 ?_
    intro v5 w5 ho5 hb5; have HO5 := Lib.hid (Kd.R_lower ho5 HB2.out.size); have HB5 := Lib.hid (below_then HB2.out HB2.out.size hb5); clear ho5 hb5 hHeld
    refine hK.out _ _ trivial (fun hHeld => ?_)
    clear hK K
    refine norm_ (a' := ?_) ?_ ?_
    rotate_left
    · show Act.put _ (some 16) _ = _
      simp only [Act.put, List.setIfInBounds_toArray, List.set_cons_zero, List.set_cons_succ, i64_w, i32_w]
      rfl
    refine pure_ (i := 9) (N := some 4) (v := ?_) (a' := ?_) #[true, true, true, true, true, true, true, true, true, true] rfl rfl (by kernel_rfl) (fun _ _ _ h => h) (Or.inl ⟨by rfl, ?_⟩) ?_ ?_
    rotate_left
    · intro w'
      go_simp
      with_reducible rfl
    rotate_left
    · simp only [Act.put, List.setIfInBounds_toArray, List.set_cons_zero, List.set_cons_succ, i64_w, i32_w]
      rfl
    refine done_ (by kernel_rfl) ?_
    refine NoPanic.normal ?_
    clear hHeld
    go_wp2
    go_ret
    exact ⟨_, rfl, HO5.out, HB5.out⟩
theorem hput_c {A : Option Addr} {c : Nat} {xs : List Int} {B : Option Addr} {d : Nat} {l : List S67} {w : World} (hC : Kd.C (Kd.int .u8) w A xs.length xs) (hc : xs.length ≤ c) (hL : Kd.C k67 w B l.length l) (hd : l.length ≤ d) (hl : l.length < 8796093022208) (hn : Bnum l) (hx : xs.length + 150000 ≤ 140737488355328) :
    Calls Try.prog 13 #[.slice A xs.length c, .slice B l.length d] w fun e w' => ∃ A' c', e = .returned (.slice A' (xs ++ formB (if chk l = true then l else [])).length c') ∧ (xs ++ formB (if chk l = true then l else [])).length ≤ c' ∧ Kd.C (Kd.int .u8) w' A' (xs ++ formB (if chk l = true then l else [])).length (xs ++ formB (if chk l = true then l else [])) ∧ Below w.heap.size w w' :=
  (hput_r hC hc hL hd hl hn hx).mono fun _ _ ⟨v, he, hR, hb⟩ => by
    obtain ⟨A', c', rfl, hc', hC'⟩ := Kd.R_reads hR
    exact ⟨A', c', he, hc', hC', hb⟩
end Go.Proofs.Ytofgcacahfdjdaa.Pure
namespace Go.Proofs.Ytofgcacahfdjdaa
set_option linter.unusedVariables false
set_option linter.unusedSimpArgs false
open Go.RowKit Go.ChangeShapes Go.WideShapes Go.Deep Go.Proofs.YtofgcacahfdjdaaW.PrintWords
theorem bulk_one {H : Type} (d : DataW H) : 1 ≤ Rows.uptoBulk d := by
  cases d with
  | lit l => cases l <;> simp [Rows.uptoBulk]
  | _ => simp [Rows.uptoBulk]
theorem bulk_all {H : Type} : ∀ l : List (DataW H), l.length ≤ Rows.uptoBulkAll l
  | [] => by simp [Rows.uptoBulkAll]
  | x :: r => by have := bulk_one x; have := bulk_all r; simp only [Rows.uptoBulkAll, List.length_cons]; omega
theorem bulk_len {P : Program} {t e : TypeId} (ht : P.underlying t = some (.slice e)) {H : Type} {enc : TypeId × Value → H} {W : World} {base : Nat} {spare : Nat → Bool} {held : Bool} {A : Option Addr} {n c : Nat} {x : DataW H} {p : List MemPlace}
    (hx : DataW.Trod enc P W base spare held t (.slice A n c) x p) : n ≤ Rows.uptoBulk x := by
  obtain ⟨fuel, hf⟩ := hx
  rcases open_slice ht hf with ⟨h, _⟩ | ⟨a, len, cap, m, k, D, Pl, h, _, _, _, _, he, _⟩
  · simp [Value.cells] at h; omega
  · simp [Value.cells] at h
    obtain ⟨-, rfl, -⟩ := h
    have e : x = .slice ((List.range n).map D) ((List.range (m - n)).map fun j => D (n + j)) := congrArg Prod.fst he
    rw [e, Rows.uptoBulk]
    have := bulk_all ((List.range n).map D)
    rw [List.length_map, List.length_range] at this
    omega
theorem bulk_hk {H : Type} {l : List (DataW H)} (hk : Rows.uptoSmall H l = true) : Rows.uptoBulkAll l ≤ 1048576 := of_decide_eq_true hk
end Go.Proofs.Ytofgcacahfdjdaa
