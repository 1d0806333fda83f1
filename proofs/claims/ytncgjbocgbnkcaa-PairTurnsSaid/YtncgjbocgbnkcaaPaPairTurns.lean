/- For any three sketches: to merge may be turned round and grouped. No condition. -/
import Derived.Test.YtncgjbocgbnkcaaRows
import Derived.WalkKit
import Derived.ProofKit
import Derived.OpenShut
import Derived.ShutString
import Derived.ChangeOld
import Derived.Below
import Derived.SizedLaws
import Derived.Test.YtncgjbocgbnkcaaPaM3
import Derived.Test.YtncgjbocgbnkcaaPaXPairTurns
namespace Go.Proofs.Ytncgjbocgbnkcaa.pairTurns
open Go.ChangeShapes Go.WideShapes Go.ChangeAt Go.RowKit
open Go.ChangeMaps (open_string shut_string)
set_option linter.unusedVariables false
theorem own : ownKnob Try.prog.godebug = none := by kernel_rfl
theorem laidOut : laidOutB Try.prog = true := by kernel_rfl
set_option maxRecDepth 100000 in
theorem lifted (os : Os) (started : os.Started) (H : Type) (enc : TypeId × Value → H) :
    ReturnsInHanded {} Try.checked os 14 .any (Rows.pairTurnsSpec.pre6 enc Try.prog Try.f14 Rows.pairTurnsRow.domain false) (Rows.pairTurnsSpec.post enc Try.prog Try.f14 false true false false) := by
  refine returnsInHanded_of_change_sized (C := Try.checked) own started (by kernel_rfl) Try.func14
    (ChangeSpec.witness6 (enc := enc) (C := Try.checked) false ⟨#[], #[.agg #[.slice none 0 0, .slice none 0 0, .int .u64 0, .int .u64 0, .int .u64 0, .int .u64 0], .agg #[.slice none 0 0, .slice none 0 0, .int .u64 0, .int .u64 0, .int .u64 0, .int .u64 0], .agg #[.slice none 0 0, .slice none 0 0, .int .u64 0, .int .u64 0, .int .u64 0, .int .u64 0]], []⟩ 8 (by kernel_rfl) (by kernel_rfl) (by kernel_rfl) (by kernel_rfl)) ?_
  intro W base args ds gs before hval0 hW hcnd hsz0 _
  have hsz : (DataW.weightsEach Try.prog (Try.f14.params.toList ++ Rows.pairTurnsSpec.plain.varTypes Try.prog) (ds ++ gs)).all (· ≤ reachBytes) = true := hsz0
  have hval : ∀ (j : Nat) t v, Try.f14.params[j]? = some t → args[j]? = some v → Value.okWide Try.prog W .any base t v := hval0
  have hW' := hW
  obtain ⟨p, q, hA0, hV, rfl, hfz, hnd⟩ := hW
  have hA : DataW.TrodAll enc Try.prog W 0 (fun _ => true) true Try.f14.params.toList args.toList ds p := hA0
  rw [Try.params14] at hA hval hsz
  obtain ⟨v0, vs0, d0, ds0, p0, q0, hargs, rfl, rfl, h0, r0⟩ := trodAll_cons hA
  obtain ⟨v1, vs1, d1, ds1, p1, q1, rfl, rfl, rfl, h1, r1⟩ := trodAll_cons r0
  obtain ⟨v2, vs2, d2, ds2, p2, q2, rfl, rfl, rfl, h2, r2⟩ := trodAll_cons r1
  obtain ⟨rfl, rfl, rfl⟩ := trodAll_nil r2
  obtain rfl : args = #[v0, v1, v2] := by cases args; simp_all
  obtain ⟨rfl, rfl⟩ := trodVars_none hV
  have k0 := h0
  have lt0 : ∀ x ∈ p0, x.block < W.heap.size := by obtain ⟨m, hm⟩ := k0; exact DataW.trod_lt m _ _ _ hm
  obtain ⟨y0, ag0, rfl, K0, w0⟩ := Opens.argS opensV hsz (j := 0) rfl rfl (okWide_agg Try.underlying45 (hval 0 45 v0 rfl rfl)) h0
  obtain ⟨A0, c0, B0, d0, e0, m0, n0, C0, D0⟩ := kV_open K0
  obtain ⟨ag0⟩ := ag0
  change ag0 = _ at e0
  subst e0
  have k1 := h1
  have lt1 : ∀ x ∈ p1, x.block < W.heap.size := by obtain ⟨m, hm⟩ := k1; exact DataW.trod_lt m _ _ _ hm
  obtain ⟨y1, ag1, rfl, K1, w1⟩ := Opens.argS opensV hsz (j := 1) rfl rfl (okWide_agg Try.underlying45 (hval 1 45 v1 rfl rfl)) h1
  obtain ⟨A1, c1, B1, d1, e1, m1, n1, C1, D1⟩ := kV_open K1
  obtain ⟨ag1⟩ := ag1
  change ag1 = _ at e1
  subst e1
  have k2 := h2
  have lt2 : ∀ x ∈ p2, x.block < W.heap.size := by obtain ⟨m, hm⟩ := k2; exact DataW.trod_lt m _ _ _ hm
  obtain ⟨y2, ag2, rfl, K2, w2⟩ := Opens.argS opensV hsz (j := 2) rfl rfl (okWide_agg Try.underlying45 (hval 2 45 v2 rfl rfl)) h2
  obtain ⟨A2, c2, B2, d2, e2, m2, n2, C2, D2⟩ := kV_open K2
  obtain ⟨ag2⟩ := ag2
  change ag2 = _ at e2
  subst e2
  clear hA0 hval0 hsz0 hsz
  refine (Pure.PairTurns_walk A0 c0 B0 d0 y0 A1 c1 B1 d1 y1 A2 c2 B2 d2 y2 W C0 m0 D0 n0 w0 C1 m1 D1 n1 w1 C2 m2 D2 n2 w2).mono fun e W' ⟨he, bel⟩ => ?_
  subst he
  exact ⟨_, rfl, _, _, _, [], _, [], hW', trodAll_mk1 (shut_bool Try.underlying4 _), (trodAll_cons_mk (Below.trod laidOut (by kernel_rfl) (of_decide_eq_true (by kernel_rfl)) k0 bel lt0) (trodAll_cons_mk (Below.trod laidOut (by kernel_rfl) (of_decide_eq_true (by kernel_rfl)) k1 bel lt1) (trodAll_cons_mk (Below.trod laidOut (by kernel_rfl) (of_decide_eq_true (by kernel_rfl)) k2 bel lt2) trodAll_mk0))), rfl, bel.frame _, fun h => by cases h⟩
theorem over : Rows.pairTurnsRow.holds Try.pinned (OpenSpec.ofChange Rows.pairTurnsSpec) :=
  OpenClaim.holds_of_wide 14 Try.f14 rfl rfl rfl rfl rfl rfl rfl ⟨rfl, rfl, rfl, rfl, rfl⟩ rfl rfl rfl rfl rfl (by kernel_rfl) Try.func14 (by kernel_rfl)
    (of_decide_eq_true (by kernel_rfl)) (by unfold Func.isWrapper; first | (rw [if_pos (by decide +kernel)]; kernel_rfl) | (rw [if_neg (by decide +kernel)]; exact ⟨rfl, rfl⟩))
    (fun os started H enc _ => lifted os started H enc)
theorem proved : Rows.PairTurnsSaid := over
#print axioms proved
end Go.Proofs.Ytncgjbocgbnkcaa.pairTurns
namespace Go.Proofs.Ytncgjbocgbnkcaa
/-- The row, under a short name, for the claim. -/
theorem pairTurns_holds : Rows.PairTurnsSaid := pairTurns.proved
end Go.Proofs.Ytncgjbocgbnkcaa
