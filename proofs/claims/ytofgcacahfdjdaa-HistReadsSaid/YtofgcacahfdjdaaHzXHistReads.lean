/- HistReads: any bytes are read as buckets as the document says. No condition. -/
import Derived.Test.YtofgcacahfdjdaaHzM4
namespace Go.Proofs.Ytofgcacahfdjdaa.Pure
set_option linter.unusedVariables false
set_option linter.unusedSimpArgs false
open Go.RowKit Go.Maps Go.Deep Go.Proofs.YtofgcacahfdjdaaW.PrintWords Go.Proofs.YtofgcacahfdjdaaW.PrintLast Go.Proofs.YtofgcacahfdjdaaW.PrintMore Go.Proofs.Ytofgcacahfdjdaa.Hi Go.Proofs.Ytofgcacahfdjdaa.Vt Go.Proofs.Ytofgcacahfdjdaa.Hb
set_option maxHeartbeats 4000000 in
set_option maxRecDepth 100000 in
theorem HistReads_walk (A0 : Option Addr) (c0 : Nat) (b : List Int) (at_ : Int) (w : World) (C0 : Kd.C (Kd.int .u8) w A0 b.length b) (m0 : b.length ≤ c0) (w0 : WBy b ∧ b.length ≤ 140737488351232) (_w1 : (Lit.int .i64 at_).wf = true) :
    Calls Try.prog 3 #[.slice A0 b.length c0, .int .i64 at_] w fun e w' => e = .returned (.bool true) ∧ Below w.heap.size w w' := by
  have CB := Lib.hid (fun W (hb : Below w.heap.size w W) => hbytes_c (by omega) C0 m0 hb)
  have HG := Lib.hid (fun W A c (hC : Kd.C (Kd.int .u8) W A b.length b) (hc : b.length ≤ c) => hget_c w0.1 at_ hC hc)
  have HQ := Lib.hid (fun W (hb : Below w.heap.size w W) => refget_c (c := c0) w0.1 m0 at_ C0 hb)
  have HO := Lib.hid (fun l q (e : getH b at_ = some (l, q)) => chk_len (getH_ok w0.1 e).1)
  have hb0 := Below.refl w.heap.size w
  clear C0 m0 w0
  cases hr : getH b at_ with
  | none =>
    rw [hr] at HG HQ
    clear HO hr
    go_enter Try.func3, Try.ntmps3
    go_wp2_with (first
      | (go_at_call 9; refine (CB.out _ hb0).mono ?_; rintro e w1 ⟨A2, c2, rfl, lc2, hC2, hb⟩; have hb1 := hb0.trans (hb.mono hb0.size); clear hb0 hb CB)
      | (go_at_call 8; refine (HG.out _ _ _ hC2 lc2).mono ?_; rintro e w2 ⟨hb, -, h2⟩; obtain rfl := h2 trivial; have hb2 := hb1.trans (hb.mono hb1.size); clear hb1 hb h2 hC2 HG)
      | (go_at_call 10; refine (HQ.out _ hb2).mono ?_; rintro e w3 ⟨hb, -, h2⟩; obtain ⟨rfl, p2⟩ := h2 trivial; have hb3 := hb2.trans (hb.mono hb2.size); clear hb hb2 h2 HQ)
      | (go_at_call 11; refine (hawake_c _).mono ?_; rintro e w9 ⟨rfl, hb⟩; have hb9 := hb3.trans (hb.mono hb3.size); clear hb3 hb))
    go_ret
    exact ⟨rfl, hb9⟩
  | some x =>
    obtain ⟨l, q⟩ := x
    have hl := HO.out l q hr
    rw [hr] at HG HQ
    clear HO hr
    go_enter Try.func3, Try.ntmps3
    go_wp2_with (first
      | (go_at_call 9; refine (CB.out _ hb0).mono ?_; rintro e w1 ⟨A2, c2, rfl, lc2, hC2, hb⟩; have hb1 := hb0.trans (hb.mono hb0.size); clear hb0 hb CB)
      | (go_at_call 8; refine (HG.out _ _ _ hC2 lc2).mono ?_; rintro e w2 ⟨hb, h1, -⟩; obtain ⟨A3, c3, rfl, lc3, hC3⟩ := h1 l q rfl; have hb2 := hb1.trans (hb.mono hb1.size); clear hb1 hb h1 hC2 HG)
      | (go_at_call 10; refine (HQ.out _ hb2).mono ?_; rintro e w3 ⟨hb, h1, -⟩; obtain ⟨A4, c4, rfl, lc4, hC4, p1, p2⟩ := h1 l q rfl; have hC3' := Kd.C_below hC3 hb; have hb3 := hb2.trans (hb.mono hb2.size); clear hb hb2 h1 HQ hC3)
      | (go_at_call 12; refine (hsame_c (by omega) hC3' lc3 hC4 lc4).mono ?_; rintro e w4 ⟨rfl, hb⟩; have p1' := pw_cell_below hb p1; have hb4 := hb3.trans (hb.mono hb3.size); clear hb hb3 hC3' hC4 p1 p2)
      | (go_at_call 11; refine (hawake_c _).mono ?_; rintro e w9 ⟨rfl, hb⟩; have hb9 := hb4.trans (hb.mono hb4.size); clear hb4 hb))
    go_ret
    exact ⟨rfl, hb9⟩
end Go.Proofs.Ytofgcacahfdjdaa.Pure
