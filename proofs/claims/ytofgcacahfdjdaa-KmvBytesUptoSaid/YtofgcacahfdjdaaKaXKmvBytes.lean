/- KmvBytes, WHERE WHAT COMES IN IS OF BULK AT MOST 1048576: what is put is the document's bytes and is read again; bytes are read as the document says. -/
import Derived.Test.YtofgcacahfdjdaaKaM2
namespace Go.Proofs.Ytofgcacahfdjdaa.Pure
set_option linter.unusedVariables false
set_option linter.unusedSimpArgs false
open Go.RowKit Go.Maps Go.Proofs.YtofgcacahfdjdaaW.PrintWords
theorem KmvBytes_walk (A0 : Option Addr) (c0 : Nat) (l0 : List Int) (A1 : Option Addr) (c1 : Nat) (b1 : List Int) (at_ : Int) (w : World) (C0 : Kd.C (Kd.int .u64) w A0 l0.length l0) (m0 : l0.length ≤ c0) (w0 : WU l0) (C1 : Kd.C (Kd.int .u8) w A1 b1.length b1) (m1 : b1.length ≤ c1) (w1 : WBy b1 ∧ b1.length ≤ 140737488351232) (_w2 : (Lit.int .i64 at_).wf = true) (u0 : l0.length ≤ 1048576) (u1 : b1.length ≤ 1048576) :
    Calls Try.prog 6 #[.slice A0 l0.length c0, .slice A1 b1.length c1, .int .i64 at_] w fun e w' => e = .returned (.bool true) ∧ Below w.heap.size w w' := by
  by_cases hk : KOk l0
  · exact KmvBytes_ok A0 c0 l0 A1 c1 b1 at_ w C0 m0 w0 C1 m1 w1.1 (by omega) hk
  · exact KmvBytes_not A0 c0 l0 A1 c1 b1 at_ w C0 m0 w0 C1 m1 w1.1 (by omega) hk
end Go.Proofs.Ytofgcacahfdjdaa.Pure
