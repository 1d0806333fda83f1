/- For every list of numbers and two numbers: what Quantile tells is at most the number of that rank, and less by no more than a 128th of it. No condition. -/
import Derived.Test.YtlfjfgcalilnpaaTrueP
import Derived.Test.YtlfjfgcalilnpaaHpx
import Derived.Test.YtlfjfgcalilnpaaOpens
import Derived.Laws.CopyOwn
import Derived.IntWalk
import Derived.StillTailTactics
namespace Go.Proofs.Ytlfjfgcalilnpaa
set_option linter.unusedVariables false
set_option linter.unusedSimpArgs false
open Go.RowKit Go.Proofs.YtlfjfgcalilnpaaW.PrintWords Go.Proofs.YtlfjfgcalilnpaaW.PrintLast Go.Proofs.YtlfjfgcalilnpaaW.PrintMore Go.Proofs.Ytlfjfgcalilnpaa.Hi Go.Proofs.Ytlfjfgcalilnpaa.Hp Go.Proofs.Ytlfjfgcalilnpaa.Pure

theorem infoU : (Try.prog.info? 23).map (fun i => (i.zero, i.size, i.bytes)) = some (some (.int .u64 0), 1, 8) := by kernel_rfl
theorem slice_at (A : Option Addr) (n c m : Nat) (hm : m ≤ n) (W : World) : (Instr.slice 22 (.slice A n c) (some (.int .i64 (m : Int))) none none).run Try.prog W = .ok (.slice (if c = m then A else A.map (·.add m)) (n - m) (c - m)) W := by
  obtain ⟨i, hi, hz⟩ := Option.map_eq_some_iff.1 infoU
  simp only [Prod.mk.injEq] at hz
  have hel : Try.prog.elem 22 = 23 := by simp [Program.elem, Try.underlying22]
  have hu : Try.prog.underlying 22 = some (.slice (Try.prog.elem 22)) := by rw [hel]; exact Try.underlying22
  rw [run_slice_l W 22 A n c hu .i64 (m : Int) (Int.natCast_nonneg _) (by omega), hel]
  simp [sizeOf, typeInfo, hi, hz.2.1, sliced, Result.andThen]
/-- One put between, in cells. -/
theorem row_insert {w : World} {blk k cap base : Nat} {L : List Value} {T : List Int} {x : Int} (hg : w.heap[blk]? = some (.cells (splice L (k + 1) (encs (Value.int .u64) (T.drop k))).toArray 23 (0, 0)))
    (hL : L.length = cap) (ht : L.take (T.length + 1) = encs (Value.int .u64) (T ++ [0])) (hk : k ≤ T.length) (hc : T.length + 1 ≤ cap) (hm : cap ≤ maxLen) (hb : base ≤ blk) :
    (w.setCell ⟨blk, k, none⟩ (.int .u64 x)).ownsRow base 23 1 (.slice (some ⟨blk, 0, none⟩) (T.length + 1) cap) (T.length + 1) (encs (Value.int .u64) (T.take k ++ x :: T.drop k)) := by
  have hb2 := blk_set hg k (.int .u64 x)
  have hcs : (encs (Value.int .u64) (T.drop k)).length = T.length - k := by simp [encs]
  have hsl : (splice L (k + 1) (encs (Value.int .u64) (T.drop k))).length = cap := by rw [length_splice _ _ _ (by omega), hL]
  refine ⟨?_, .inr ⟨blk, cap, _, rfl, hb, hb2, hc, hm, ?_, ?_⟩⟩
  · simp [encs]; omega
  · simp [hsl]
  · rw [Nat.mul_one]
    refine List.ext_getElem? fun j => ?_
    have eL : ∀ j, j < T.length + 1 → L[j]? = (encs (Value.int .u64) (T ++ [0]))[j]? := fun j hj => by rw [← ht, List.getElem?_take_of_lt hj]
    by_cases hj : j < T.length + 1
    · rw [List.getElem?_take_of_lt hj]
      simp only [Array.toList_setIfInBounds]
      rw [List.getElem?_set]
      by_cases c1 : k = j
      · subst c1
        rw [if_pos rfl, if_pos (by rw [hsl]; omega)]
        simp [encs, List.getElem?_append, Nat.min_eq_left hk]
      · rw [if_neg c1]
        unfold splice
        by_cases c2 : j < k
        · rw [List.getElem?_append_left (by rw [List.length_take]; omega), List.getElem?_take_of_lt (by omega), eL j hj]
          simp only [encs, List.map_append]
          rw [List.getElem?_append_left (by simp; omega), List.getElem?_append_left (by simp; omega)]
          simp [List.getElem?_take_of_lt c2]
        · rw [List.getElem?_append_right (by rw [List.length_take]; omega), List.length_take, Nat.min_eq_left (by omega)]
          rw [List.getElem?_append_left (by rw [hcs]; omega)]
          simp only [encs, List.map_append, List.map_cons]
          rw [List.getElem?_append_right (by simp; omega)]
          simp only [List.length_map, List.length_take, Nat.min_eq_left hk]
          rw [show j - k = (j - (k + 1)) + 1 by omega, List.getElem?_cons_succ]
    · rw [List.getElem?_eq_none (by rw [List.length_take]; omega), List.getElem?_eq_none (by simp [encs]; omega)]
theorem HS.bel2 {w0 W W' : World} {g base : Nat} {s : List Int} (h : HS w0 W [(g, s)]) (hb : Below base W W') (hg : g < base) (h0 : w0.heap.size ≤ base) : HS w0 W' [(g, s)] := by
  refine ⟨fun p hp => ?_, h.2.1, h.2.2.trans (hb.mono h0)⟩
  rw [List.mem_singleton] at hp
  subst hp
  have := h.1 (g, s) (by simp)
  exact ⟨(hb.block g hg).trans this.1, this.2⟩
theorem drawn_more {w w1 : World} (h : Drawn0 w w1) (n : Nat) : Drawn0 w (w1.drewN n) := by
  obtain ⟨m, rfl⟩ := h
  exact ⟨_, World.drewN_drewN _ _ _⟩
theorem drawn_cell {w w1 : World} (h : Drawn0 w w1) (a : Addr) : w1.cell? a = w.cell? a := by
  obtain ⟨m, rfl⟩ := h
  rfl
theorem rd_nat_ {l : List Int} {j : Nat} (h : j < l.length) : rd l (j : Int) = l[j] := by
  simp [rd, List.getD, List.getElem?_eq_getElem h]
theorem awake_h (w : World) : Calls Try.prog 19 #[] w fun e w' => e = .returned (.bool true) ∧ Below w.heap.size w w' := varvelaw07_awake.calls true w Pure.awake_true
/-- An insertion keeps the order. -/
theorem sorted_insert {T : List Int} {x : Int} {k : Nat} (hs : T.Pairwise (· ≤ ·)) (hk : k ≤ T.length) (h1 : ∀ j (hj : j < T.length), k ≤ j → x < T[j]) (h2 : ∀ hk0 : 0 < k, T[k - 1]'(by omega) ≤ x) : (T.take k ++ x :: T.drop k).Pairwise (· ≤ ·) := by
  refine List.pairwise_append.2 ⟨hs.sublist (List.take_sublist _ _), List.pairwise_cons.2 ⟨fun y hy => ?_, hs.sublist (List.drop_sublist _ _)⟩, fun y hy z hz => ?_⟩
  · obtain ⟨i, hi, rfl⟩ := List.getElem_of_mem hy
    rw [List.length_drop] at hi
    rw [List.getElem_drop]
    have := h1 (k + i) (by omega) (by omega); omega
  · obtain ⟨i, hi, rfl⟩ := List.getElem_of_mem hy
    rw [List.length_take] at hi
    rw [List.getElem_take]
    have e1 : T[i] ≤ T[k - 1]'(by omega) := by
      rcases Nat.lt_or_ge i (k - 1) with c | c
      · exact List.pairwise_iff_getElem.1 hs i (k - 1) (by omega) (by omega) c
      · have : i = k - 1 := by omega
        subst this; exact Int.le_refl _
    have e2 := h2 (by omega)
    rcases List.mem_cons.1 hz with rfl | hz
    · omega
    · obtain ⟨m, hm, rfl⟩ := List.getElem_of_mem hz
      rw [List.length_drop] at hm
      rw [List.getElem_drop]
      have := h1 (k + m) (by omega) (by omega); omega
theorem perm_insert {T l : List Int} {x : Int} {k : Nat} (hp : T.Perm l) : (T.take k ++ x :: T.drop k).Perm (l ++ [x]) := by
  have e : (T.take k ++ x :: T.drop k).Perm (x :: (T.take k ++ T.drop k)) := List.perm_middle
  rw [List.take_append_drop] at e
  exact e.trans ((hp.cons x).trans (by simpa using (List.perm_append_comm (l₁ := [x]) (l₂ := l))))
theorem less_eq {n m a b : Int} (hn : 0 ≤ n ∧ n ≤ 300) (hm : 0 ≤ m ∧ m ≤ 300) (ha : U a) (hb : U b) : varvelaw07_less.f n b m a = some (decide (n * b < m * a)) := by
  obtain ⟨a0, a1⟩ := ha
  obtain ⟨b0, b1⟩ := hb
  have mask : ∀ z : Int, 0 ≤ z → z < 18446744073709551616 → bits .and .u64 z 4294967295 = z % 4294967296 := fun z h0 h1 => by
    obtain ⟨k, rfl⟩ : ∃ k : Nat, z = k := ⟨z.toNat, by omega⟩
    rw [D.maskN k (by omega)]; omega
  have wr : ∀ z : Int, 0 ≤ z → z < 18446744073709551616 → IntKind.u64.wrap z = z := fun z h0 h1 => by rw [IntKind.wrap_u64]; omega
  have pr : ∀ x y : Int, 0 ≤ x → x ≤ 300 → 0 ≤ y → y < 4294967296 → 0 ≤ x * y ∧ x * y ≤ 300 * 4294967296 := fun x y h0 h1 h2 h3 => ⟨Int.mul_nonneg h0 h2, Int.mul_le_mul h1 (by omega) h2 (by omega)⟩
  unfold varvelaw07_less.f
  rw [mask a a0 a1, mask b b0 b1, wr n (by omega) (by omega)]
  have e1 : n * b = n * (b / 4294967296) * 4294967296 + n * (b % 4294967296) := by
    rw [Int.mul_assoc, ← Int.mul_add]; congr 1; omega
  have e2 : m * a = m * (a / 4294967296) * 4294967296 + m * (a % 4294967296) := by
    rw [Int.mul_assoc, ← Int.mul_add]; congr 1; omega
  have p1 := pr n (b / 4294967296) hn.1 hn.2 (by omega) (by omega)
  have p2 := pr n (b % 4294967296) hn.1 hn.2 (by omega) (by omega)
  have p3 := pr m (a / 4294967296) hm.1 hm.2 (by omega) (by omega)
  have p4 := pr m (a % 4294967296) hm.1 hm.2 (by omega) (by omega)
  generalize n * (b / 4294967296) = X at *
  generalize n * (b % 4294967296) = Y at *
  generalize m * (a / 4294967296) = Z at *
  generalize m * (a % 4294967296) = V at *
  rw [wr X (by omega) (by omega), wr Y (by omega) (by omega), wr Z (by omega) (by omega), wr V (by omega) (by omega), wr (X + Y / 4294967296) (by omega) (by omega), wr (Z + V / 4294967296) (by omega) (by omega), mask Y (by omega) (by omega), mask V (by omega) (by omega)]
  split
  · congr 1; exact decide_eq_decide.2 ⟨fun h => by omega, fun h => by omega⟩
  · congr 1; exact decide_eq_decide.2 ⟨fun h => by omega, fun h => by omega⟩
/-- A part rounded up: the least number of times. -/
theorem up_spec {a n b : Int} (hb : 0 < b) : a * n ≤ Pure.up a n b * b ∧ (Pure.up a n b - 1) * b < a * n := by
  have e1 := Int.mul_ediv_add_emod (a * n) b
  have m1 := Int.emod_nonneg (a * n) (b := b) (by omega)
  have l1 := Int.emod_lt_of_pos (a * n) hb
  unfold Pure.up
  split
  · rename_i h
    rw [Int.add_sub_cancel, Int.add_mul, Int.one_mul, Int.mul_comm (a * n / b) b]
    omega
  · rename_i h
    rw [Int.sub_mul, Int.one_mul, Int.mul_comm (a * n / b) b]
    omega
theorem first_is {a b : Int} {len n k : Nat} (hb : 0 < b) (h1 : 1 ≤ n) (h2 : n ≤ len) (hk : (k : Int) = max 1 (Pure.up a len b)) (hkl : k ≤ len) (hI : ∀ m : Nat, 1 ≤ m → m < n → (m : Int) * b < len * a) (hE : n = len ∨ ¬ (n : Int) * b < len * a) : n = k := by
  obtain ⟨u1, u2⟩ := up_spec (a := a) (n := (len : Int)) hb
  rw [Int.mul_comm a] at u1 u2
  rcases Nat.lt_trichotomy n k with c | c | c
  · exfalso
    rcases hE with rfl | hE
    · omega
    · have e : (n : Int) ≤ Pure.up a len b - 1 := by omega
      have := Int.mul_le_mul_of_nonneg_right e (show (0 : Int) ≤ b by omega)
      omega
  · exact c
  · exfalso
    have := hI k (by omega) c
    have e : Pure.up a len b ≤ (k : Int) := by omega
    have := Int.mul_le_mul_of_nonneg_right e (show (0 : Int) ≤ b by omega)
    omega
set_option maxHeartbeats 1000000 in
theorem True_no (A0 : Option Addr) (c0 n0 : Nat) (a b : Int) (hn : 300 < n0) (hm : n0 ≤ 17592186043904) (w : World) :
    Calls Try.prog 3 #[.slice A0 n0 c0, .int .u64 a, .int .u64 b] w fun e w' => e = .returned (.bool true) ∧ Below w.heap.size w w' := by
  have hd : decide ((300 : Int) < (n0 : Int)) = true := decide_eq_true (by omega)
  have hS0 := HS.nil w
  clear hn
  go_enter Try.func3, Try.ntmps3
  go_wp2_with (first
    | (go_at_call 18; refine hS0.new.mono ?_; rintro e w1 ⟨g, rfl, hS1, hb⟩; clear hS0 hb)
    | (go_at_call 19; refine (awake_h _).mono ?_; rintro e w2 ⟨rfl, hb⟩; have hS2 := hS1.below hb; clear hS1 hb))
  go_ret
  exact ⟨rfl, hS2.bel⟩
set_option maxHeartbeats 4000000 in
set_option maxRecDepth 100000 in
theorem True_walk (A0 : Option Addr) (c0 : Nat) (l0 : List Int) (a b : Int) (w : World) (C0 : Kd.C (Kd.int .u64) w A0 l0.length l0) (hU : ∀ x ∈ l0, 0 ≤ x ∧ x < 18446744073709551616) (hl : l0.length ≤ 300) (ha : U a) (hb : U b) :
    Calls Try.prog 3 #[.slice A0 l0.length c0, .int .u64 a, .int .u64 b] w fun e w' => e = .returned (.bool true) ∧ Below w.heap.size w w' := by
  have hd0 : decide ((300 : Int) < (l0.length : Int)) = false := decide_eq_false (by omega)
  have hS0 := HS.nil w
  have HC0 := Lib.hid C0; have HU := Lib.hid hU; have HA := Lib.hid ha; have HB := Lib.hid hb
  clear C0 hU ha hb
  go_enter Try.func3, Try.ntmps3
  go_wp2_with (go_at_call 18; refine hS0.new.mono ?_; rintro e w1 ⟨g, rfl, hS1, hb1⟩; clear hS0)
  have hgB := blk_lt (hS1.at_ 0 rfl).1
  have hBz := hb1.size
  obtain ⟨base, hbase⟩ : ∃ base, w1.heap.size = base := ⟨_, rfl⟩
  rw [hbase] at hgB hBz
  have hbase2 : base ≤ w1.heap.size := by omega
  clear hb1 hbase
  go_loopw [8, 9] (fun v8 v9 wr => ∃ (i : Nat) (T : List Int), v9 = .int .i64 i ∧ i ≤ l0.length ∧ HS w wr [(g, addEach (l0.take i))] ∧ (Kd.int .u64).R 23 wr base (fun _ => True) v8 T ∧ T.Perm (l0.take i) ∧ T.Pairwise (· ≤ ·) ∧ base ≤ wr.heap.size) (fun _ i _ => l0.length - (intOf i).toNat)
  case atStart => exact ⟨0, [], rfl, Nat.zero_le _, hS1, Kd.R_nil _ _ _ _ _, List.Perm.refl _, List.Pairwise.nil, hbase2⟩
  case round =>
    clear hS1 hbase2
    obtain ⟨i, T, rfl, hi, hS, hR, hP, hT, hBW⟩ := hrel
    obtain ⟨A, c, rfl, hcT, hCT⟩ := Kd.R_reads hR
    have HP := Lib.hid hP; have HT := Lib.hid hT
    have hTl : T.length = i := by rw [hP.length_eq, List.length_take]; omega
    have HTL := Lib.hid hTl
    have hTn : T.length ≤ 300 := by omega
    clear hP hT hCT hTl
    by_cases hil : i < l0.length
    · have e1 : decide ((i : Int) < (l0.length : Int)) = true := decide_eq_true (by omega)
      have e1b : decide (i < l0.length) = true := decide_eq_true hil
      obtain ⟨ax, hax, q0⟩ := Kd.at_int HC0.out (i : Int) (by omega) (by omega)
      rw [Int.toNat_natCast, rd_nat_ hil] at q0
      have hx := HU.out l0[i] (by simp)
      obtain ⟨x, hxx⟩ : ∃ x, l0[i] = x := ⟨_, rfl⟩
      have ek : addEach (l0.take (i + 1)) = hadd (addEach (l0.take i)) (bucketN x.toNat) 1 := by rw [← hxx, ← addEach_snoc, List.take_succ_eq_append_getElem hil]
      have et : l0.take (i + 1) = l0.take i ++ [x] := by rw [← hxx, List.take_succ_eq_append_getElem hil]
      rw [hxx] at q0 hx
      have hgood_ := (addEach_spec (l0.take i) (fun y hy => HU.out y (List.mem_of_mem_take hy)) (by rw [List.length_take]; omega)).1
      have CA := hS.add 0 rfl hgood_ hx (n := 1) ⟨by decide, by decide⟩
      have EK := Lib.hid ek; have ET := Lib.hid et; have HX := Lib.hid hx; have HI := Lib.hid hil
      have HQ0 := Lib.hid q0
      have q1 := (hS.bel.cell (World.block_lt_of_cell? w _ q0)).trans q0
      subst hax
      have HR := Lib.hid hR
      clear hxx ek et hx hil q0 hgood_ hS hR
      go_wp2_with (go_at_call 20; refine CA.mono ?_; rintro e w2 ⟨rfl, hS2, hk2⟩; clear CA q1)
      have hR2 := Kd.R_step (Kd.R_bound HR.out) (fun q hq hlt => hk2.2 q hlt (by have := hq.2.1; omega) (by simp))
      have hR2' := Kd.R_mono hR2 (fun _ hq => hq.1)
      have hBW2 : base ≤ w2.heap.size := Nat.le_trans hBW hk2.1
      have hC2 := (Kd.R_reads' hR2').2.2
      have HC2 := Lib.hid hC2; have HR2 := Lib.hid hR2'; have HS2 := Lib.hid hS2
      have q2 := (hS2.bel.cell (World.block_lt_of_cell? w _ HQ0.out)).trans HQ0.out
      have HQ2 := Lib.hid q2
      clear HR hR2 hR2' hC2 hk2 hS2 hBW q2
      go_loopw [10] (fun v10 wr => ∃ k : Nat, v10 = .int .i64 k ∧ k ≤ T.length ∧ Hid (∀ j (hj : j < T.length), k ≤ j → x < T[j]) ∧ Drawn0 w2 wr) (fun vi _ => (intOf vi).toNat)
      case atStart => exact ⟨T.length, rfl, Nat.le_refl _, Lib.hid (fun j hj h => by omega), Drawn0.refl _⟩
      case round =>
        obtain ⟨k, rfl, hkT, HK, hD⟩ := hrel
        have HD := Lib.hid hD
        by_cases hk0 : 0 < k
        · have e2 : decide (0 < k) = true := decide_eq_true hk0
          have e3 : decide ((0 : Int) < (k : Int)) = true := decide_eq_true (by omega)
          obtain ⟨am, ham, q3⟩ := Kd.at_int HC2.out ((k : Int) - 1) (by omega) (by omega)
          rw [show ((k : Int) - 1).toNat = k - 1 by omega] at q3
          rw [show (k : Int) - 1 = ((k - 1 : Nat) : Int) by omega, rd_nat_ (by omega)] at q3
          have q4 := (drawn_cell hD _).trans q3
          have q5 := (drawn_cell hD _).trans HQ2.out
          obtain ⟨y, hy⟩ : ∃ y, T[k - 1]'(by omega) = y := ⟨_, rfl⟩
          rw [hy] at q4
          have HY := Lib.hid hy
          subst ham
          clear q3 hy hD
          by_cases hxy : x < y
          · have e4 : decide (x < y) = true := decide_eq_true hxy
            go_wp2
            go_quiet (fail)
            go_wp2
            go_roundw
            case rel => exact ⟨k - 1, congrArg (Value.int .i64) (by omega), by omega, Lib.hid (fun j hj h => by
              rcases Nat.lt_or_ge j k with c | c
              · obtain rfl : j = k - 1 := by omega
                rw [HY.out]; exact hxy
              · exact HK.out j hj c), drawn_more HD.out _⟩
            case measure => simp [intOf]; omega
          · have e4 : decide (x < y) = false := decide_eq_false hxy
            have HK2 := Lib.hid (show ∀ hk0 : 0 < k, T[k - 1]'(by omega) ≤ x from fun _ => by rw [HY.out]; omega)
            go_wp2
            go_quiet (fail)
            go_wp2_with ((with_reducible refine gate_builtin (b := .append) (xs := #[.tmp 58, .tmp 59]) rfl ?_); at_builtin; refine Kd.R_append (Kd.int .u64) base rfl (.tmp 58) (.tmp 59) 22 23 (.int .u64 0) 8 rfl Try.underlying22 infoU rfl (by decide) (by omega) (.slice _ T.length c) T 0 [.int .u64 0] (fun _ => True) (fun _ => False) rfl rfl rfl (fun _ hk => hk.elim) (fun _ _ => trivial) (Kd.R_below HR2.out (drawn_more HD.out _).below) (Below.refl _ _) (Nat.le_trans hBW2 (drawn_more HD.out _).below.size) (by omega) ?_; intro v3 w3 ho3 hb3 hg3 hat3; have hS3 := HS.bel2 (HS2.out.below (drawn_more HD.out _).below) hb3 hgB hBz; clear hb3 hg3 hat3)
            have ho := Kd.own_of_R ho3
            clear ho3
            rw [List.length_append, List.length_singleton] at ho
            obtain ⟨_, hcase⟩ := ho
            rcases hcase with ⟨_, h2⟩ | ⟨blk, cap, cur, hv, hbl, hg3, hle, hmx, hsz, htk⟩
            · omega
            subst hv
            rw [Nat.mul_one] at hsz htk
            have hlt3 := blk_lt hg3
            have hne1 : ¬ cap = k := by omega
            have T1 := fun W => slice_at (some ⟨blk, 0, none⟩) (T.length + 1) cap (k + 1) (by omega) W
            have T2 := fun W => slice_at (some ⟨blk, 0, none⟩) (T.length + 1) cap k (by omega) W
            rw [if_neg hne1] at T2
            obtain ⟨dp, hdp⟩ : ∃ dp : Option Addr, (if cap = k + 1 then some (⟨blk, 0, none⟩ : Addr) else (some (⟨blk, 0, none⟩ : Addr)).map (·.add (k + 1))) = dp := ⟨_, rfl⟩
            obtain ⟨sp, hsp⟩ : ∃ sp : Option Addr, (some (⟨blk, 0, none⟩ : Addr)).map (·.add k) = sp := ⟨_, rfl⟩
            obtain ⟨dl, hdl⟩ : ∃ n : Nat, T.length + 1 - (k + 1) = n := ⟨_, rfl⟩
            obtain ⟨sl, hsl⟩ : ∃ n : Nat, T.length + 1 - k = n := ⟨_, rfl⟩
            obtain ⟨dc, hdc⟩ : ∃ n : Nat, cap - (k + 1) = n := ⟨_, rfl⟩
            obtain ⟨sc, hsc⟩ : ∃ n : Nat, cap - k = n := ⟨_, rfl⟩
            rw [hdp, hdl, hdc, show ((k + 1 : Nat) : Int) = (k : Int) + 1 by omega] at T1
            rw [hsp, hsl, hsc] at T2
            have hsp2 : sp = some ⟨blk, k, none⟩ := by rw [← hsp]; show some (Addr.add _ k) = _; unfold Addr.add; split <;> simp_all
            have hdp2 : 0 < dl → dp = some ⟨blk, k + 1, none⟩ := fun h => by rw [← hdp, if_neg (by omega)]; simp [Addr.add]
            have hcsl : (encs (Value.int .u64) (T.drop k)).length = dl := by simp [encs]; omega
            have hsrc : ∀ j v, (encs (Value.int .u64) (T.drop k))[j]? = some v → w3.cell? ((⟨blk, k, none⟩ : Addr).add j) = some v := fun j v hv => by
              have hj := (List.getElem?_eq_some_iff.1 hv).1
              rw [hcsl] at hj
              have e2 : cur.toList[k + j]? = (encs (Value.int .u64) (T ++ [0]))[k + j]? := by rw [← htk, List.getElem?_take_of_lt (by omega)]
              have e3 : (⟨blk, k, none⟩ : Addr).add j = ⟨blk, k + j, none⟩ := by unfold Addr.add; split <;> simp_all
              rw [e3, blk_cell hg3 (k + j), ← Array.getElem?_toList, e2]
              simp only [encs, List.map_append]
              rw [List.getElem?_append_left (by simp; omega)]
              rw [← hv]; simp [encs, List.getElem?_drop]
            have H1 := Lib.hid hsp2; have H2 := Lib.hid hdp2; have H3 := Lib.hid hcsl; have H4 := Lib.hid hsrc; have H5 := Lib.hid htk; have H6 := Lib.hid hsz; have HG3 := Lib.hid hg3; have HDL := Lib.hid (show dl = T.length - k by omega); have HSL := Lib.hid (show sl = dl + 1 by omega)
            have HS3 := Lib.hid hS3
            clear hdp hsp hdl hsl hdc hsc hsp2 hdp2 hcsl hsrc htk hsz hg3 hne1 hS3
            go_wp2
            have w1 : IntKind.i64.wrap ((k : Int) + 1) = (k : Int) + 1 := IntWalk.i64_in _ (by omega)
            refine wp_region_still_tail 7 (by kernel_rfl) (by kernel_rfl) ?_
            simp only [List.take_succ_cons, List.take_zero, List.drop_succ_cons, List.drop_zero]
            change wpStill _ _ w3.drew _ _ _
            repeat still_step
            refine wpStill_nil ?_
            change wpList _ _ _ _ _ w3.drew
            clear w1
            refine wpList_copy_splice rfl (.tmp 64) (.tmp 67) 22 22 rfl 23 Try.underlying22 (by kernel_rfl) dp sp dl dc sl sc rfl rfl blk (k + 1) cur.toList 23 HG3.out (encs (Value.int .u64) (T.drop k)) (by rw [H3.out, HSL.out]; exact (Nat.min_eq_right (by omega)).symm) (fun h => ⟨H2.out (by rw [← H3.out]; exact h), ⟨blk, k, none⟩, H1.out, H4.out⟩) (by rw [H3.out]; have := H6.out; have := HDL.out; simp; omega) (fun v hv => by obtain ⟨z, _, rfl⟩ := List.mem_map.1 hv; rfl) base w3.drew (Below.refl _ _) hbl ?_
            intro w4 HG4 hb4
            have hS4 := HS.bel2 (HS3.out.below (below_drew (Below.refl _ _))) hb4 hgB hBz
            have hgg := HG4.out
            obtain ⟨v0, d1⟩ : ∃ v, w4.cell? ⟨blk, k, none⟩ = some v := ⟨_, (blk_cell hgg k).trans (by rw [List.getElem?_toArray, List.getElem?_eq_getElem (by rw [length_splice _ _ _ (by rw [H3.out]; have := H6.out; have := HDL.out; simp; omega)]; have := H6.out; simp; omega)])⟩
            have d2 := blk_frozen hgg k
            have d3 := (hS4.bel.cell (World.block_lt_of_cell? w _ HQ0.out)).trans HQ0.out
            have ho5 := row_insert (x := x) HG4.out (by rw [Array.length_toList]; exact H6.out) H5.out hkT (by omega) hmx hbl
            have hlen5 : (T.take k ++ x :: T.drop k).length = T.length + 1 := by simp; omega
            have HO5 := Lib.hid ho5; have HLEN5 := Lib.hid hlen5; have HS4 := Lib.hid hS4
            have hsz4 := hb4.size
            have hbw4 : base ≤ w4.heap.size := by have : w3.drew.heap.size = w3.heap.size := rfl; omega
            clear hgg ho5 hlen5 hS4 hb4 hsz4
            go_wp2
            go_roundw
            case rel =>
              refine ⟨i + 1, T.take k ++ x :: T.drop k, by go_num, by have := HI.out; omega, ?_, ?_, ?_, ?_, ?_⟩
              · rw [EK.out]; exact HS.bel2 HS4.out ((Below.refl base w4).setCell hbl _) hgB hBz
              · refine Kd.R_of_own ?_ (fun _ _ => trivial)
                rw [HLEN5.out]; exact HO5.out
              · rw [ET.out]; exact perm_insert HP.out
              · exact sorted_insert HT.out hkT HK.out HK2.out
              · simpa using hbw4
            case measure => have := HI.out; simp [intOf]; omega
        · have e2 : decide (0 < k) = false := decide_eq_false hk0
          have e3 : decide ((0 : Int) < (k : Int)) = false := decide_eq_false (by omega)
          have HK2 := Lib.hid (show ∀ hk0 : 0 < k, T[k - 1]'(by omega) ≤ x from fun h => absurd h hk0)
          clear hD
          go_wp2
          go_quiet (fail)
          go_wp2_with ((with_reducible refine gate_builtin (b := .append) (xs := #[.tmp 58, .tmp 59]) rfl ?_); at_builtin; refine Kd.R_append (Kd.int .u64) base rfl (.tmp 58) (.tmp 59) 22 23 (.int .u64 0) 8 rfl Try.underlying22 infoU rfl (by decide) (by omega) (.slice _ T.length c) T 0 [.int .u64 0] (fun _ => True) (fun _ => False) rfl rfl rfl (fun _ hk => hk.elim) (fun _ _ => trivial) (Kd.R_below HR2.out (drawn_more HD.out _).below) (Below.refl _ _) (Nat.le_trans hBW2 (drawn_more HD.out _).below.size) (by omega) ?_; intro v3 w3 ho3 hb3 hg3 hat3; have hS3 := HS.bel2 (HS2.out.below (drawn_more HD.out _).below) hb3 hgB hBz; clear hb3 hg3 hat3)
          have ho := Kd.own_of_R ho3
          clear ho3
          rw [List.length_append, List.length_singleton] at ho
          obtain ⟨_, hcase⟩ := ho
          rcases hcase with ⟨_, h2⟩ | ⟨blk, cap, cur, hv, hbl, hg3, hle, hmx, hsz, htk⟩
          · omega
          subst hv
          rw [Nat.mul_one] at hsz htk
          have hlt3 := blk_lt hg3
          have hne1 : ¬ cap = k := by omega
          have T1 := fun W => slice_at (some ⟨blk, 0, none⟩) (T.length + 1) cap (k + 1) (by omega) W
          have T2 := fun W => slice_at (some ⟨blk, 0, none⟩) (T.length + 1) cap k (by omega) W
          rw [if_neg hne1] at T2
          obtain ⟨dp, hdp⟩ : ∃ dp : Option Addr, (if cap = k + 1 then some (⟨blk, 0, none⟩ : Addr) else (some (⟨blk, 0, none⟩ : Addr)).map (·.add (k + 1))) = dp := ⟨_, rfl⟩
          obtain ⟨sp, hsp⟩ : ∃ sp : Option Addr, (some (⟨blk, 0, none⟩ : Addr)).map (·.add k) = sp := ⟨_, rfl⟩
          obtain ⟨dl, hdl⟩ : ∃ n : Nat, T.length + 1 - (k + 1) = n := ⟨_, rfl⟩
          obtain ⟨sl, hsl⟩ : ∃ n : Nat, T.length + 1 - k = n := ⟨_, rfl⟩
          obtain ⟨dc, hdc⟩ : ∃ n : Nat, cap - (k + 1) = n := ⟨_, rfl⟩
          obtain ⟨sc, hsc⟩ : ∃ n : Nat, cap - k = n := ⟨_, rfl⟩
          rw [hdp, hdl, hdc, show ((k + 1 : Nat) : Int) = (k : Int) + 1 by omega] at T1
          rw [hsp, hsl, hsc] at T2
          have hsp2 : sp = some ⟨blk, k, none⟩ := by rw [← hsp]; show some (Addr.add _ k) = _; unfold Addr.add; split <;> simp_all
          have hdp2 : 0 < dl → dp = some ⟨blk, k + 1, none⟩ := fun h => by rw [← hdp, if_neg (by omega)]; simp [Addr.add]
          have hcsl : (encs (Value.int .u64) (T.drop k)).length = dl := by simp [encs]; omega
          have hsrc : ∀ j v, (encs (Value.int .u64) (T.drop k))[j]? = some v → w3.cell? ((⟨blk, k, none⟩ : Addr).add j) = some v := fun j v hv => by
            have hj := (List.getElem?_eq_some_iff.1 hv).1
            rw [hcsl] at hj
            have e2 : cur.toList[k + j]? = (encs (Value.int .u64) (T ++ [0]))[k + j]? := by rw [← htk, List.getElem?_take_of_lt (by omega)]
            have e3 : (⟨blk, k, none⟩ : Addr).add j = ⟨blk, k + j, none⟩ := by unfold Addr.add; split <;> simp_all
            rw [e3, blk_cell hg3 (k + j), ← Array.getElem?_toList, e2]
            simp only [encs, List.map_append]
            rw [List.getElem?_append_left (by simp; omega)]
            rw [← hv]; simp [encs, List.getElem?_drop]
          have H1 := Lib.hid hsp2; have H2 := Lib.hid hdp2; have H3 := Lib.hid hcsl; have H4 := Lib.hid hsrc; have H5 := Lib.hid htk; have H6 := Lib.hid hsz; have HG3 := Lib.hid hg3; have HDL := Lib.hid (show dl = T.length - k by omega); have HSL := Lib.hid (show sl = dl + 1 by omega)
          have HS3 := Lib.hid hS3
          clear hdp hsp hdl hsl hdc hsc hsp2 hdp2 hcsl hsrc htk hsz hg3 hne1 hS3
          go_wp2
          have w1 : IntKind.i64.wrap ((k : Int) + 1) = (k : Int) + 1 := IntWalk.i64_in _ (by omega)
          refine wp_region_still_tail 7 (by kernel_rfl) (by kernel_rfl) ?_
          simp only [List.take_succ_cons, List.take_zero, List.drop_succ_cons, List.drop_zero]
          change wpStill _ _ w3.drew _ _ _
          repeat still_step
          refine wpStill_nil ?_
          change wpList _ _ _ _ _ w3.drew
          clear w1
          refine wpList_copy_splice rfl (.tmp 64) (.tmp 67) 22 22 rfl 23 Try.underlying22 (by kernel_rfl) dp sp dl dc sl sc rfl rfl blk (k + 1) cur.toList 23 HG3.out (encs (Value.int .u64) (T.drop k)) (by rw [H3.out, HSL.out]; exact (Nat.min_eq_right (by omega)).symm) (fun h => ⟨H2.out (by rw [← H3.out]; exact h), ⟨blk, k, none⟩, H1.out, H4.out⟩) (by rw [H3.out]; have := H6.out; have := HDL.out; simp; omega) (fun v hv => by obtain ⟨z, _, rfl⟩ := List.mem_map.1 hv; rfl) base w3.drew (Below.refl _ _) hbl ?_
          intro w4 HG4 hb4
          have hS4 := HS.bel2 (HS3.out.below (below_drew (Below.refl _ _))) hb4 hgB hBz
          have hgg := HG4.out
          obtain ⟨v0, d1⟩ : ∃ v, w4.cell? ⟨blk, k, none⟩ = some v := ⟨_, (blk_cell hgg k).trans (by rw [List.getElem?_toArray, List.getElem?_eq_getElem (by rw [length_splice _ _ _ (by rw [H3.out]; have := H6.out; have := HDL.out; simp; omega)]; have := H6.out; simp; omega)])⟩
          have d2 := blk_frozen hgg k
          have d3 := (hS4.bel.cell (World.block_lt_of_cell? w _ HQ0.out)).trans HQ0.out
          have ho5 := row_insert (x := x) HG4.out (by rw [Array.length_toList]; exact H6.out) H5.out hkT (by omega) hmx hbl
          have hlen5 : (T.take k ++ x :: T.drop k).length = T.length + 1 := by simp; omega
          have HO5 := Lib.hid ho5; have HLEN5 := Lib.hid hlen5; have HS4 := Lib.hid hS4
          have hsz4 := hb4.size
          have hbw4 : base ≤ w4.heap.size := by have : w3.drew.heap.size = w3.heap.size := rfl; omega
          clear hgg ho5 hlen5 hS4 hb4 hsz4
          go_wp2
          go_roundw
          case rel =>
            refine ⟨i + 1, T.take k ++ x :: T.drop k, by go_num, by have := HI.out; omega, ?_, ?_, ?_, ?_, ?_⟩
            · rw [EK.out]; exact HS.bel2 HS4.out ((Below.refl base w4).setCell hbl _) hgB hBz
            · refine Kd.R_of_own ?_ (fun _ _ => trivial)
              rw [HLEN5.out]; exact HO5.out
            · rw [ET.out]; exact perm_insert HP.out
            · exact sorted_insert HT.out hkT HK.out HK2.out
            · simpa using hbw4
          case measure => have := HI.out; simp [intOf]; omega
    · have e1 : decide ((i : Int) < (l0.length : Int)) = false := decide_eq_false (by omega)
      have e1b : decide (i < l0.length) = false := decide_eq_false hil
      obtain rfl : i = l0.length := by omega
      rw [List.take_length] at hS HP
      obtain ⟨S, hSS⟩ : ∃ S, addEach l0 = S := ⟨_, rfl⟩
      have hgood_ := (addEach_spec l0 HU.out (by omega)).1
      rw [hSS] at hS hgood_
      have HSS := Lib.hid hSS; have HG := Lib.hid hgood_; have HR := Lib.hid hR
      clear hSS hgood_ hR hil
      have QC := fun v e (hq : hist_Hist_Quantile.f S a b = some (v, e, S)) => hist_Hist_Quantile.calls g S a b v e S w wr (hS.at_ 0 rfl) hS.bel hq
      by_cases hbad : b = 0 ∨ b < a
      · have C := QC 0 5 (by unfold hist_Hist_Quantile.f; rw [if_pos ⟨HG.out, HA.out, HB.out⟩, if_pos hbad])
        clear QC
        by_cases hb0 : b = 0
        · have d1 : (b == 0) = true := beq_iff_eq.2 hb0
          clear hbad hb0
          go_wp2_with (first
            | (go_at_call 21; refine C.mono ?_; rintro e w5 ⟨rfl, _, hb5, _⟩; clear C)
            | (go_at_call 19; refine (awake_h _).mono ?_; rintro e w6 ⟨rfl, hb6⟩))
          go_ret
          exact ⟨rfl, hb5.trans (hb6.mono hb5.size)⟩
        · have d1 : (b == 0) = false := beq_eq_false_iff_ne.2 hb0
          have d2 : decide (b < a) = true := decide_eq_true (by omega)
          clear hbad hb0
          go_wp2_with (first
            | (go_at_call 21; refine C.mono ?_; rintro e w5 ⟨rfl, _, hb5, _⟩; clear C)
            | (go_at_call 19; refine (awake_h _).mono ?_; rintro e w6 ⟨rfl, hb6⟩))
          go_ret
          exact ⟨rfl, hb5.trans (hb6.mono hb5.size)⟩
      · have hb0 : ¬ b = 0 := fun h => hbad (.inl h)
        have hab : ¬ b < a := fun h => hbad (.inr h)
        have d1 : (b == 0) = false := beq_eq_false_iff_ne.2 hb0
        have d2 : decide (b < a) = false := decide_eq_false hab
        by_cases hz : l0.length = 0
        · have hs0 : hsum S = 0 := by
            rw [← HSS.out, List.eq_nil_of_length_eq_zero hz]; exact hsum_hzero
          have C := QC 0 3 (by unfold hist_Hist_Quantile.f; rw [if_pos ⟨HG.out, HA.out, HB.out⟩, if_neg hbad, if_neg (by omega), if_pos hs0])
          have d3 : ((l0.length : Int) == 0) = true := beq_iff_eq.2 (by omega)
          have d4 : (l0.length == 0) = true := beq_iff_eq.2 hz
          clear QC hbad hb0 hab hs0 hz
          go_wp2_with (first
            | (go_at_call 21; refine C.mono ?_; rintro e w5 ⟨rfl, _, hb5, _⟩; clear C)
            | (go_at_call 19; refine (awake_h _).mono ?_; rintro e w6 ⟨rfl, hb6⟩))
          go_ret
          exact ⟨rfl, hb5.trans (hb6.mono hb5.size)⟩
        · obtain ⟨k, hk1, hk2, hk3, hk4⟩ := quant_each HP.out HT.out HU.out (by omega) (by omega) HA.out HB.out hb0 (by omega)
          rw [HSS.out] at hk4
          have C := QC _ _ hk4
          have hkT : k - 1 < T.length := by have := HTL.out; omega
          obtain ⟨am, ham, q3⟩ := Kd.at_int (Kd.R_reads' HR.out).2.2 ((k : Int) - 1) (by omega) (by omega)
          rw [show ((k : Int) - 1).toNat = k - 1 by omega] at q3
          rw [show (k : Int) - 1 = ((k - 1 : Nat) : Int) by omega, rd_nat_ hkT] at q3
          have eg : T.getD (k - 1) 0 = T[k - 1] := by rw [List.getD, List.getElem?_eq_getElem hkT]; rfl
          rw [eg] at C
          have hx := HU.out T[k - 1] (HP.out.mem_iff.1 (List.getElem_mem hkT))
          obtain ⟨x, hxx⟩ : ∃ x, T[k - 1] = x := ⟨_, rfl⟩
          rw [hxx] at q3 C hx
          have y1 := bucket_in x.toNat (by omega)
          have y2 := low_near x.toNat (by omega)
          obtain ⟨y, hy⟩ : ∃ y : Int, (lowN (bucketN x.toNat) : Int) = y := ⟨_, rfl⟩
          rw [hy] at C
          have hy1 : y ≤ x := by omega
          have hy0 : 0 ≤ y := by omega
          have hy2 : x - y ≤ x / 128 := by omega
          have hxx2 := Lib.hid hxx
          have HK1 := Lib.hid hk1; have HQ3 := Lib.hid q3; have HRB := Lib.hid (Kd.R_bound HR.out)
          have d3 : ((l0.length : Int) == 0) = false := beq_eq_false_iff_ne.2 (by omega)
          have d4 : (l0.length == 0) = false := beq_eq_false_iff_ne.2 hz
          have hbp : 0 < b := by have := HB.out.1; omega
          have LS := fun (n : Nat) (hn : n ≤ 300) W => varvelaw07_less.calls (n : Int) b (l0.length : Int) a _ W (less_eq ⟨by omega, by omega⟩ ⟨by omega, by omega⟩ HA.out HB.out)
          subst ham
          clear QC hbad hb0 hab hz hk1 hk4 q3 eg hxx y1 y2 hy hS
          go_wp2_with (go_at_call 21; refine C.mono ?_; rintro e w5 ⟨rfl, _, hb5, hkb5⟩; clear C)
          have HB5 := Lib.hid hb5; have HKB := Lib.hid hkb5
          clear hb5 hkb5
          go_loopw [13] (fun v13 wr => ∃ n : Nat, v13 = .int .i64 n ∧ 1 ≤ n ∧ n ≤ l0.length ∧ Hid (∀ m : Nat, 1 ≤ m → m < n → (m : Int) * b < l0.length * a) ∧ Drawn0 w5 wr) (fun vi _ => l0.length + 1 - (intOf vi).toNat)
          case atStart => exact ⟨1, rfl, Nat.le_refl _, by omega, Lib.hid (fun m h1 h2 => by omega), Drawn0.refl _⟩
          case round =>
            obtain ⟨n, rfl, hn1, hn2, HI, hD⟩ := hrel
            have HD := Lib.hid hD
            clear hD
            by_cases hnl : n < l0.length
            · have f3 : decide (n < l0.length) = true := decide_eq_true hnl
              have f4 : decide ((n : Int) < (l0.length : Int)) = true := decide_eq_true (by omega)
              have L := LS n (by omega)
              by_cases hls : (n : Int) * b < l0.length * a
              · rw [decide_eq_true hls] at L
                have HL := Lib.hid hls
                clear hls LS
                go_wp2_with (go_at_call 22; refine (L _).mono ?_; rintro e w6 ⟨rfl, hd⟩; have HD6 := Lib.hid hd; clear hd L)
                go_roundw
                case rel => exact ⟨n + 1, by go_num, by omega, by omega, Lib.hid (fun m h1 h2 => by
                  rcases Nat.lt_or_ge m n with c | c
                  · exact HI.out m h1 c
                  · obtain rfl : m = n := by omega
                    exact HL.out), by obtain ⟨q, hq⟩ := HD6.out; rw [hq]; exact drawn_more HD.out q⟩
                case measure => simp [intOf]; omega
              · rw [decide_eq_false hls] at L
                have HE := Lib.hid (show n = l0.length ∨ ¬ (n : Int) * b < l0.length * a from .inr hls)
                clear hls LS
                obtain rfl := first_is hbp hn1 hn2 HK1.out hk3 HI.out HE.out
                have hR5 := Kd.R_step HRB.out (fun q hq hlt => HKB.out.2 q hlt (by have := hq.2.1; omega) (by simp))
                obtain ⟨am', e', q6⟩ := Kd.at_int (Kd.R_reads' hR5).2.2 ((n : Int) - 1) (by omega) (by omega)
                obtain rfl : am = am' := by injection e'
                rw [show ((n : Int) - 1).toNat = n - 1 by omega] at q6
                rw [show (n : Int) - 1 = ((n - 1 : Nat) : Int) by omega, rd_nat_ hkT, hxx2.out] at q6
                have q7 := (drawn_cell HD.out _).trans q6
                have hxy0 : 0 ≤ x - y := by omega
                have hxy1 : x - y < 18446744073709551616 := by omega
                have f1 : decide (y ≤ x) = true := decide_eq_true hy1
                have f2 : decide (x - y ≤ x / 128) = true := decide_eq_true hy2
                have hbz := HD.out.below.size
                clear hR5 q6 e'
                go_wp2_with (first
                  | (go_at_call 22; refine (L _).mono ?_; rintro e w6 ⟨rfl, ⟨nd, rfl⟩⟩; clear L)
                  | (go_at_call 19; refine (awake_h _).mono ?_; rintro e w7 ⟨rfl, hb7⟩))
                go_ret
                exact ⟨rfl, (pw_below_drewN (HB5.out.trans (HD.out.below.mono HB5.out.size)) nd).trans (hb7.mono (Nat.le_trans HB5.out.size hbz))⟩
            · have f3 : decide (n < l0.length) = false := decide_eq_false hnl
              have f4 : decide ((n : Int) < (l0.length : Int)) = false := decide_eq_false (by omega)
              have HE := Lib.hid (show n = l0.length ∨ ¬ (n : Int) * b < l0.length * a from .inl (by omega))
              clear LS hnl
              obtain rfl := first_is hbp hn1 hn2 HK1.out hk3 HI.out HE.out
              have hR5 := Kd.R_step HRB.out (fun q hq hlt => HKB.out.2 q hlt (by have := hq.2.1; omega) (by simp))
              obtain ⟨am', e', q6⟩ := Kd.at_int (Kd.R_reads' hR5).2.2 ((n : Int) - 1) (by omega) (by omega)
              obtain rfl : am = am' := by injection e'
              rw [show ((n : Int) - 1).toNat = n - 1 by omega] at q6
              rw [show (n : Int) - 1 = ((n - 1 : Nat) : Int) by omega, rd_nat_ hkT, hxx2.out] at q6
              have q7 := (drawn_cell HD.out _).trans q6
              have hxy0 : 0 ≤ x - y := by omega
              have hxy1 : x - y < 18446744073709551616 := by omega
              have f1 : decide (y ≤ x) = true := decide_eq_true hy1
              have f2 : decide (x - y ≤ x / 128) = true := decide_eq_true hy2
              have hbz := HD.out.below.size
              clear hR5 q6 e'
              go_wp2_with (go_at_call 19; refine (awake_h _).mono ?_; rintro e w7 ⟨rfl, hb7⟩)
              go_ret
              exact ⟨rfl, (HB5.out.trans (HD.out.below.mono HB5.out.size)).trans (hb7.mono (Nat.le_trans HB5.out.size hbz))⟩
def Pure.WUh (l : List Int) : Prop := l.length * 8 ≤ 140737488351232 ∧ l.length ≤ 9223372036854775807 ∧ ∀ x ∈ l, (Lit.int .u64 x).wf = true
theorem opensUh : Opens Try.prog 22 (Kd.slice 23 (Kd.int .u64)) Pure.WUh := opens_slice Try.underlying22 (by kernel_rfl) (by kernel_rfl) (opens_int Try.underlying23)
theorem Pure.HistTrue_walk (A0 : Option Addr) (c0 : Nat) (l0 : List Int) (a1 a2 : Int) (w : World) (C0 : Kd.C (Kd.int .u64) w A0 l0.length l0) (_ : l0.length ≤ c0) (w0 : Pure.WUh l0) (w1 : (Lit.int .u64 a1).wf = true) (w2 : (Lit.int .u64 a2).wf = true) :
    Calls Try.prog 3 #[.slice A0 l0.length c0, .int .u64 a1, .int .u64 a2] w fun e w' => e = .returned (.bool true) ∧ Below w.heap.size w w' := by
  by_cases h : l0.length ≤ 300
  · exact True_walk A0 c0 l0 a1 a2 w C0 (fun x hx => U.of (w0.2.2 x hx)) h (U.of w1) (U.of w2)
  · exact True_no A0 c0 l0.length a1 a2 (by omega) (by have := w0.1; omega) w
end Go.Proofs.Ytlfjfgcalilnpaa
