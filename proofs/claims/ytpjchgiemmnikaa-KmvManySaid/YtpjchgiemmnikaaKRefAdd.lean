/- varveref08.Add by a walk over its Go text. -/
import Derived.Test.YtpjchgiemmnikaaKRef
namespace Go.Proofs.Ytpjchgiemmnikaa
set_option linter.unusedVariables false
set_option linter.unusedSimpArgs false
open Go.RowKit Go.Maps Go.Proofs.YtpjchgiemmnikaaW.PrintWords Go.Proofs.YtpjchgiemmnikaaW.PrintLast Go.Proofs.YtpjchgiemmnikaaW.PrintMore Go.Proofs.Ytpjchgiemmnikaa.Pure Go.Proofs.Ytpjchgiemmnikaa.Q

theorem refAdd_u (A : Option Addr) (c : Nat) (l : List Int) (s : ByteArray) (w : World) (hC : Kd.C (Kd.int .u64) w A l.length l) (hok : KOk l) (hcl : l.length ≤ c) (k : Nat) (r : Int) (hf : varveref06_Of.f k s = some r) :
    Calls Try.prog 35 #[.slice A l.length c, .string s] w fun e w' => ∃ A' c', e = .returned (.slice A' (khash l r).length c') ∧ (khash l r).length ≤ c' ∧ Kd.C (Kd.int .u64) w' A' (khash l r).length (khash l r) ∧ Below w.heap.size w w' ∧ ((A' = A ∧ khash l r = l) ∨ ∀ ad, A' = some ad → w.heap.size ≤ ad.block) := by
  have C := varveref06_Of.calls k s r w hf
  have H := Lib.hid hC; have HO := Lib.hid hok; have HL := Lib.hid hcl
  clear hC hok hcl hf
  go_enter Try.func35, Try.ntmps35
  go_wp2_with (first
    | (go_at_call 29; refine C.mono ?_; rintro e w1 ⟨rfl, hd⟩; clear C; have hb := hd.below; have C2 := refHash_same A c l r w1 (Kd.C_below H.out hb) HO.out HL.out; have HB := Lib.hid hb; clear hb hd)
    | (go_at_call 36; refine C2.mono ?_; rintro e w2 ⟨A', c', rfl, h1, h2, h3, h4⟩; clear C2))
  go_ret
  exact ⟨A', c', rfl, h1, h2, HB.out.trans (h3.mono HB.out.size), h4.imp id (fun h ad e => Nat.le_trans HB.out.size (h ad e))⟩
end Go.Proofs.Ytpjchgiemmnikaa
