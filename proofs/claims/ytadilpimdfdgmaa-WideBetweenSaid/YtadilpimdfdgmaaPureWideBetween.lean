/- For all a, b, d of 64 bits: what Ceil tells is what Floor tells where nothing is left, and one above it where something is; where either does not fit it tells so, and 0. No condition. -/
import Derived.Test.YtadilpimdfdgmaaBase
namespace Go.Proofs.Ytadilpimdfdgmaa.Pure
open Go.Proofs.Ytadilpimdfdgmaa.Q
theorem WideBetween : varvelaw01_WideBetween.Pure := by
  intro a b d ha hb hd
  replace ha := U.of_wf ha; replace hb := U.of_wf hb; replace hd := U.of_wf hd
  obtain ⟨f1, f2⟩ := full_U ha hb
  refine ⟨1, ?_⟩
  unfold varvelaw01_WideBetween.f
  rw [Floor_eq ha hb hd, Ceil_eq ha hb hd 1 (by omega), Full_eq ha hb]
  simp only [Option.bind_some]
  rw [Div_eq f1 f2 hd]
  simp only [Option.bind_some, varvelaw01_WideBetween.j0]
  rw [awake_true]
  by_cases c : a * b / 18446744073709551616 < d
  · obtain ⟨e, u, r0, r1, r2⟩ := pr_yes ha hb hd c
    have e' := e
    unfold pr at e'
    rw [e, e']
    have q1 := u.1; have q2 := u.2
    clear e e' r2
    generalize a * b / d = Q at *
    generalize a * b % d = R at *
    by_cases p : R > 0
    · by_cases q : Q = 18446744073709551615
      · simp [ceil128, p, q]
      · have w := wu_in (n := Q + 1) (by omega) (by omega)
        have : R ≠ 0 := by omega
        simp [ceil128, p, q, w, this]
    · have : R = 0 := by omega
      simp [ceil128, this]
  · have e : pr a b d = (0, 0, false) := by unfold pr; exact div128_no c
    have e' := e
    unfold pr at e'
    rw [e, e']
    simp [ceil128]
end Go.Proofs.Ytadilpimdfdgmaa.Pure
