/- A list of buckets that came in, opened. -/
import Derived.Test.YtmhejpcbgknncaaOpens
import Derived.Test.YtmhejpcbgknncaaLBase
namespace Go.Proofs.Ytmhejpcbgknncaa
open Go.Proofs.YtmhejpcbgknncaaW.PrintWords Go.Proofs.Ytmhejpcbgknncaa.Hj
theorem opens51 : Opens Try.prog 51 k51 (fun b => (Lit.int .i64 b.f0).wf = true ∧ (Lit.int .u64 b.f1).wf = true) :=
  opens_iso (fun x : S51 => (x.f0, x.f1)) (fun p => ⟨p.1, p.2⟩) (fun _ => rfl) (opens_struct Try.underlying51 (by kernel_rfl) (opensFields_cons rfl (by kernel_rfl) (opens_int Try.underlying3) (opensFields_one rfl (by kernel_rfl) (opens_int Try.underlying22))))
theorem opens41 : Opens Try.prog 41 (Kd.slice 51 k51) Pure.WB := opens_slice Try.underlying41 (by kernel_rfl) (by kernel_rfl) opens51
end Go.Proofs.Ytmhejpcbgknncaa
