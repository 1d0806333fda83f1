/- For every list of buckets: whether it may be, the program tells as the reference does, and the list stays. No condition. -/
import Derived.Test.YtmhejpcbgknncaaWalkHistChecks
namespace Go.Proofs.Ytmhejpcbgknncaa.Pure
open Go.RowKit Go.Proofs.Ytmhejpcbgknncaa.Hi Go.Proofs.Ytmhejpcbgknncaa.Hj
theorem HistChecks : varvelaw07_HistChecks.Pure := by
  intro l h
  have hl := h.len
  refine ⟨l.length + 1, ?_⟩
  unfold varvelaw07_HistChecks.f
  rw [Copy_eq l hl, Option.bind_some, Check_eq l hl _ (by omega), refCheck_eq l hl _ (by omega), Same_self l hl _ (by omega), awake_true]
  simp
end Go.Proofs.Ytmhejpcbgknncaa.Pure
