/- varvelaw08.awake by a walk over its Go text: the document's example holds. -/
import Derived.Test.YtpjchgiemmnikaaKRefAdd
namespace Go.Proofs.Ytpjchgiemmnikaa
set_option linter.unusedVariables false
set_option linter.unusedSimpArgs false
open Go.RowKit Go.Maps Go.Proofs.YtpjchgiemmnikaaW.PrintWords Go.Proofs.YtpjchgiemmnikaaW.PrintLast Go.Proofs.YtpjchgiemmnikaaW.PrintMore Go.Proofs.Ytpjchgiemmnikaa.Pure Go.Proofs.Ytpjchgiemmnikaa.Q

theorem KF.belowOf {w0 w w' : World} {kb mb : Nat} (h : KF w w' kb mb) (hb : Below w0.heap.size w0 w) (h1 : w0.heap.size ≤ kb) (h2 : w0.heap.size ≤ mb) : Below w0.heap.size w0 w' :=
  ⟨h.1.trans hb.os, h.2.1.trans hb.tape, h.2.2.1.trans hb.output, Nat.le_trans hb.size h.2.2.2.1, fun i hi => (h.2.2.2.2 i (Nat.lt_of_lt_of_le hi hb.size) (by omega) (by omega)).trans (hb.block i hi)⟩
theorem awake_u (w : World) : Calls Try.prog 25 #[] w fun e w' => e = .returned (.bool true) ∧ Below w.heap.size w w' := by
  have f1 : fnv_Of.f 10 ⟨#[97]⟩ = some 12638187200555641996 := by decide +kernel
  have f2 : fnv_Of.f 10 ⟨#[98]⟩ = some 12638190499090526629 := by decide +kernel
  have s1 : khash [] 12638187200555641996 = [12638187200555641996] := by decide +kernel
  have s2 : khash [12638187200555641996] 12638187200555641996 = [12638187200555641996] := by decide +kernel
  have s3 : khash [12638187200555641996] 12638190499090526629 = [12638187200555641996, 12638190499090526629] := by decide +kernel
  have f3 : kmv_Distinct.f 10 [12638187200555641996, 12638190499090526629] = some 2 := by decide +kernel
  have F1 := Lib.hid f1; have F2 := Lib.hid f2; have F3 := Lib.hid f3; have S1 := Lib.hid s1; have S2 := Lib.hid s2; have S3 := Lib.hid s3
  clear f1 f2 f3 s1 s2 s3
  go_enter Try.func25, Try.ntmps25
  go_wp2_with (first
    | (go_at_call 26; refine (new_u w).mono ?_; rintro e w1 ⟨kb, mb, rfl, hk1, l1, l2, b1⟩)
    | (go_at_call 28; refine (add_u kb mb _ _ _ hk1 10 _ F1.out (by omega)).mono ?_; rintro e w2 ⟨rfl, hk2, hf⟩; rw [S1.out] at hk2; have b2 := hf.belowOf b1 l1 l2; clear hk1 b1 hf)
    | (go_at_call 28; refine (add_u kb mb _ _ _ hk2 10 _ F1.out (by omega)).mono ?_; rintro e w3 ⟨rfl, hk3, hf⟩; rw [S2.out] at hk3; have b3 := hf.belowOf b2 l1 l2; clear hk2 b2 hf)
    | (go_at_call 28; refine (add_u kb mb _ _ _ hk3 10 _ F2.out (by omega)).mono ?_; rintro e w4 ⟨rfl, hk4, hf⟩; rw [S3.out] at hk4; have b4 := hf.belowOf b3 l1 l2; clear hk3 b3 hf)
    | (go_at_call 30; refine (dist_u kb mb _ _ hk4 10 2 F3.out).mono ?_; rintro e w5 ⟨rfl, hb⟩; have b5 := b4.trans (hb.mono b4.size); have hk5 := hk4.block (hb.block kb (Array.getElem?_eq_some_iff.1 hk4.cells.choose_spec.1).1) (hb.block mb hk4.map.lt); clear hk4 b4 hb)
    | (go_at_call 32; refine (hashes_u kb mb _ _ hk5).mono ?_; rintro e w6 ⟨v, rfl, ho, hb⟩; have b6 := b5.trans (hb.mono b5.size); clear hk5 b5 hb; obtain ⟨A, c, rfl, hc, hC⟩ := C_of_own ho; clear ho hC))
  go_ret
  exact ⟨rfl, b6⟩
end Go.Proofs.Ytpjchgiemmnikaa
