/- What is asked of the law HistRises: its pure statement, and the walk that follows from it. No condition but how an argument is read. -/
import Derived.Test.YtmhejpcbgknncaaHkx
import Derived.Test.YtmhejpcbgknncaaOpens
import Derived.Test.YtmhejpcbgknncaaHMerge
namespace Go.Proofs.Ytmhejpcbgknncaa.Hk
open Go.RowKit Go.Proofs.YtmhejpcbgknncaaW.PrintWords Go.Proofs.YtmhejpcbgknncaaW.PrintLast Go.Proofs.YtmhejpcbgknncaaW.PrintMore Go.Proofs.Ytmhejpcbgknncaa.Hi Go.Proofs.Ytmhejpcbgknncaa.Hj Go.Proofs.Ytmhejpcbgknncaa.Hk
def varvelaw07_HistRises.Pure : Prop := ∀ (l0 : List Hj.S51) (a1 : Int) (a2 : Int) (a3 : Int), Pure.WB l0 → (Lit.int .u64 a1).wf = true → (Lit.int .u64 a2).wf = true → (Lit.int .u64 a3).wf = true → ∃ k, varvelaw07_HistRises.f k l0 a1 a2 a3 = some true
theorem varvelaw07_HistRises.walk (P : varvelaw07_HistRises.Pure) (A0 : Option Addr) (c0 : Nat) (l0 : List Hj.S51) (a1 : Int) (a2 : Int) (a3 : Int) (w : World) (r0 : Kd.C Hj.k51 w A0 l0.length l0) (m0 : l0.length ≤ c0) (w0 : Pure.WB l0) (w1 : (Lit.int .u64 a1).wf = true) (w2 : (Lit.int .u64 a2).wf = true) (w3 : (Lit.int .u64 a3).wf = true) :
    Calls Try.prog 9 #[.slice A0 l0.length c0, .int .u64 a1, .int .u64 a2, .int .u64 a3] w fun e w' => e = .returned (.bool true) ∧ Below w.heap.size w w' := by
  obtain ⟨k, h⟩ := P l0 a1 a2 a3 w0 w1 w2 w3
  exact (varvelaw07_HistRises.calls k A0 c0 l0 a1 a2 a3 true w r0 m0 h).mono fun _ _ ⟨he, hb⟩ => ⟨he, hb⟩
end Go.Proofs.Ytmhejpcbgknncaa.Hk
