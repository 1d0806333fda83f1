/- (*kmv.Kmv).Distinct and Add by walks over their Go text. -/
import Derived.Test.YtpjchgiemmnikaaKMerge
import Derived.Test.YtpjchgiemmnikaaQx
namespace Go.Proofs.Ytpjchgiemmnikaa
set_option linter.unusedVariables false
set_option linter.unusedSimpArgs false
open Go.RowKit Go.Maps Go.Proofs.YtpjchgiemmnikaaW.PrintWords Go.Proofs.YtpjchgiemmnikaaW.PrintLast Go.Proofs.YtpjchgiemmnikaaW.PrintMore Go.Proofs.Ytpjchgiemmnikaa.Pure Go.Proofs.Ytpjchgiemmnikaa.Q

theorem C_of_own {w : World} {base : Nat} {v : Value} {l : List Int} (h : w.ownsRow base 25 1 v l.length (nums .u64 l)) : ∃ A c, v = .slice A l.length c ∧ l.length ≤ c ∧ Kd.C (Kd.int .u64) w A l.length l := by
  have := Kd.R_reads (Kd.R_of_own (α := Int) (enc := Value.int .u64) (h1 := fun _ => rfl) (ok := fun _ => True) h (fun _ _ => trivial))
  exact this
theorem dist_u (kb mb : Nat) (S : List Int) (w : World) (h : KM w kb mb S) (k : Nat) (r : Int) (hf : kmv_Distinct.f k S = some r) :
    Calls Try.prog 30 #[.pointer (some ⟨kb, 0, none⟩)] w fun e w' => e = .returned (.int .u64 r) ∧ Below w.heap.size w w' := by
  have C := hashes_u kb mb S w h
  have HF := Lib.hid hf
  clear h hf
  go_enter Try.func30, Try.ntmps30
  go_wp2_with (first
    | (go_at_call 32; refine C.mono ?_; rintro e w1 ⟨v, rfl, ho, hb⟩; clear C; obtain ⟨A, c, rfl, hc, hC⟩ := C_of_own ho; have C2 := kmv_Distinct.calls k A c S r w1 hC hc HF.out; have HB := Lib.hid hb; clear ho hb hC)
    | (go_at_call 23; refine C2.mono ?_; rintro e w2 ⟨rfl, hb2⟩; clear C2))
  go_ret
  exact ⟨rfl, HB.out.trans (hb2.mono HB.out.size)⟩
theorem add_u (kb mb : Nat) (S : List Int) (s : ByteArray) (w : World) (hk : KM w kb mb S) (k : Nat) (r : Int) (hf : fnv_Of.f k s = some r) (hr : 0 ≤ r ∧ r < 18446744073709551616) :
    Calls Try.prog 28 #[.pointer (some ⟨kb, 0, none⟩), .string s] w fun e w' => e = .returned (.tuple #[]) ∧ KM w' kb mb (khash S r) ∧ KF w w' kb mb := by
  have C := fnv_Of.calls k s r w hf
  have HK := Lib.hid hk
  clear hk hf
  go_enter Try.func28, Try.ntmps28
  go_wp2_with (first
    | (go_at_call 63; refine C.mono ?_; rintro e w1 ⟨rfl, hd⟩; clear C; have hb := hd.below; have C2 := hash_u kb mb S r hr w1 (HK.out.block (hb.block kb (Array.getElem?_eq_some_iff.1 HK.out.cells.choose_spec.1).1) (hb.block mb HK.out.map.lt)); have HB := Lib.hid hb; clear hb hd)
    | (go_at_call 31; refine C2.mono ?_; rintro e w2 ⟨rfl, h2, hF⟩; clear C2))
  go_end0
  exact ⟨rfl, h2, (KF.below HB.out).trans hF⟩
end Go.Proofs.Ytpjchgiemmnikaa
