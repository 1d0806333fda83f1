/- What is asked of the law HistChecks: its pure statement, and the walk that follows from it. No condition but how an argument is read. -/
import Derived.Test.YtmhejpcbgknncaaHjx3
import Derived.Test.YtmhejpcbgknncaaOpens
import Derived.Test.YtmhejpcbgknncaaOpenB
namespace Go.Proofs.Ytmhejpcbgknncaa.Hj
open Go.RowKit Go.Proofs.YtmhejpcbgknncaaW.PrintWords Go.Proofs.YtmhejpcbgknncaaW.PrintLast Go.Proofs.YtmhejpcbgknncaaW.PrintMore Go.Proofs.Ytmhejpcbgknncaa.Hi Go.Proofs.Ytmhejpcbgknncaa.Hj
def varvelaw07_HistChecks.Pure : Prop := ∀ (l0 : List Hj.S51), Pure.WB l0 → ∃ k, varvelaw07_HistChecks.f k l0 = some true
theorem varvelaw07_HistChecks.walk (P : varvelaw07_HistChecks.Pure) (A0 : Option Addr) (c0 : Nat) (l0 : List Hj.S51) (w : World) (r0 : Kd.C Hj.k51 w A0 l0.length l0) (m0 : l0.length ≤ c0) (w0 : Pure.WB l0) :
    Calls Try.prog 7 #[.slice A0 l0.length c0] w fun e w' => e = .returned (.bool true) ∧ Below w.heap.size w w' := by
  obtain ⟨k, h⟩ := P l0 w0
  exact (varvelaw07_HistChecks.calls k A0 c0 l0 true w r0 m0 h).mono fun _ _ ⟨he, hb⟩ => ⟨he, hb⟩
end Go.Proofs.Ytmhejpcbgknncaa.Hj
