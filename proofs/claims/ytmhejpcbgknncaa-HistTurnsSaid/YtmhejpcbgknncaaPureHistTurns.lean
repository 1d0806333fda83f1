/- For every three lists of buckets: to merge may be turned round and grouped. No condition. -/
import Derived.Test.YtmhejpcbgknncaaWalkHistTurns
namespace Go.Proofs.Ytmhejpcbgknncaa.Pure
open Go.RowKit Go.Proofs.Ytmhejpcbgknncaa.Hi Go.Proofs.Ytmhejpcbgknncaa.Hj Go.Proofs.YtmhejpcbgknncaaW.PrintWords Go.Proofs.YtmhejpcbgknncaaW.PrintLast
theorem HistTurns_walk (A0 : Option Addr) (c0 : Nat) (l0 : List S51) (A1 : Option Addr) (c1 : Nat) (l1 : List S51) (A2 : Option Addr) (c2 : Nat) (l2 : List S51) (w : World)
    (C0 : Kd.C k51 w A0 l0.length l0) (m0 : l0.length ≤ c0) (w0 : WB l0) (C1 : Kd.C k51 w A1 l1.length l1) (m1 : l1.length ≤ c1) (w1 : WB l1) (C2 : Kd.C k51 w A2 l2.length l2) (m2 : l2.length ≤ c2) (w2 : WB l2) :
    Calls Try.prog 12 #[.slice A0 l0.length c0, .slice A1 l1.length c1, .slice A2 l2.length c2] w fun e w' => e = .returned (.bool true) ∧ Below w.heap.size w w' := by
  by_cases h : (chk l0 && chk l1 && chk l2) = false
  · exact HistTurns_no A0 A1 A2 c0 c1 c2 l0 l1 l2 w C0 C1 C2 m0 m1 m2 w0 w1 w2 _ _ _ rfl rfl rfl h
  · simp only [Bool.not_eq_false, Bool.and_eq_true] at h
    obtain ⟨⟨ha, hb⟩, hc⟩ := h
    have ba := Bok.of w0 ha; have bb := Bok.of w1 hb; have bc := Bok.of w2 hc
    have g0 := hzero_good
    have ga := merged_good_of ba g0; have gb := merged_good_of bb g0; have gc := merged_good_of bc g0
    have gab := merged_good_of bb ga; have gcb := merged_good_of bb gc; have gbc := merged_good_of bc gb
    have gX := merged_good_of bc gab; have gY := merged_good_of ba gcb
    have gW := merged_good_of (bks_Bok gbc) ga
    refine HistTurns_yes A0 A1 A2 c0 c1 c2 l0 l1 l2 w C0 C1 C2 m0 m1 m2 w0 w1 w2 ha hb hc _ _ _ _ _ _ _ _ _ rfl rfl rfl rfl rfl rfl rfl rfl rfl ga gb gc gab gcb gX gY gbc gW ?_ ?_
    · refine congrArg bks ?_
      rw [merged_plus ba gcb, merged_plus bb gc, merged_plus bc gab, merged_plus bb ga, hplus_comm (hplus_good gc gb) ga, hplus_comm gc gb, hplus_assoc ga gb gc]
    · refine congrArg bks ?_
      rw [merged_plus (bks_Bok gbc) ga, merged_bks gbc, merged_plus bc gb, merged_plus bc gab, merged_plus bb ga, hplus_assoc ga gb gc]
end Go.Proofs.Ytmhejpcbgknncaa.Pure
