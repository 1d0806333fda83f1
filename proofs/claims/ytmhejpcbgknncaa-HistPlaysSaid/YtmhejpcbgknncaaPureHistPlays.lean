/- For every list of buckets and every script of calls: each call answers, and all buckets are, what the reference says. No condition. -/
import Derived.Test.YtmhejpcbgknncaaWalkHistPlays2
namespace Go.Proofs.Ytmhejpcbgknncaa.Pure
open Go.RowKit Go.Proofs.YtmhejpcbgknncaaW.PrintWords Go.Proofs.Ytmhejpcbgknncaa.Hi Go.Proofs.Ytmhejpcbgknncaa.Hj
theorem HistPlays_walk (A0 : Option Addr) (c0 : Nat) (l0 : List S51) (A1 : Option Addr) (c1 : Nat) (l1 : List S59) (w : World) (C0 : Kd.C k51 w A0 l0.length l0) (m0 : l0.length ≤ c0) (w0 : WB l0) (C1 : Kd.C k59 w A1 l1.length l1) (_ : l1.length ≤ c1) (w1 : WOps l1) :
    Calls Try.prog 13 #[.slice A0 l0.length c0, .slice A1 l1.length c1] w fun e w' => e = .returned (.bool true) ∧ Below w.heap.size w w' := by
  cases h : chk l0 with
  | true => exact HistPlays_yes A0 c0 l0 A1 c1 l1 w C0 m0 w0 h C1 w1
  | false => exact HistPlays_no A0 c0 l0 A1 c1 l1 w C0 m0 w0 h
end Go.Proofs.Ytmhejpcbgknncaa.Pure
