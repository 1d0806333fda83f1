/- What the methods of hist.Hist do to the array of 7424 counts that they are given, by walks over their Go text. -/
import Derived.Test.YtmhejpcbgknncaaWide
import Derived.Lib.SliceRun
import Derived.StillTailTactics
namespace Go.Proofs.Ytmhejpcbgknncaa
open Go.RowKit Go.Proofs.YtmhejpcbgknncaaW.PrintWords Go.Proofs.YtmhejpcbgknncaaW.PrintLast Go.Proofs.YtmhejpcbgknncaaW.PrintMore

/-- The cells of the counts. -/
def hcells (l : List Int) : Array Value := (l.map (Value.int .u64)).toArray
theorem hcells_get (l : List Int) (i : Nat) : (hcells l)[i]? = (l[i]?).map (Value.int .u64) := by simp [hcells]
theorem hcells_size (l : List Int) : (hcells l).size = l.length := by simp [hcells]
theorem hcells_set (l : List Int) (i : Nat) (x : Int) : (hcells l).setIfInBounds i (.int .u64 x) = hcells (l.set i x) := by
  simp [hcells, List.map_set]

/-- No count at all. -/
def hzero (n : Nat) : List Int := List.replicate n 0
theorem hzero_length (n : Nat) : (hzero n).length = n := by simp [hzero]
theorem hzero_cells (n i : Nat) (h : i < n) : (hcells (hzero n))[i]? = some (.int .u64 0) := by
  rw [hcells_get, hzero, List.getElem?_replicate, if_pos h]; rfl
theorem heap_setCells (b : Nat) (T : TypeId) (news : List Value) : ∀ (o : Nat) (w : World) (cs : Array Value), w.heap[b]? = some (.cells cs T (0, 0)) →
    ∃ cs' : Array Value, (w.setCells b o news).heap[b]? = some (.cells cs' T (0, 0)) ∧ cs'.size = cs.size ∧ ∀ j, j < cs.size → cs'[j]? = if o ≤ j ∧ j < o + news.length then news[j - o]? else cs[j]? := by
  induction news with
  | nil => intro o w cs h; exact ⟨cs, h, rfl, fun j _ => by rw [if_neg (by simp)]⟩
  | cons v news ih =>
    intro o w cs h
    obtain ⟨cs', h1, h2, h3⟩ := ih (o + 1) (w.setCell ⟨b, o, none⟩ v) _ (blk_set h o v)
    refine ⟨cs', h1, by rw [h2]; simp, fun j hj => ?_⟩
    rw [h3 j (by simpa using hj)]
    by_cases c : o = j
    · subst c
      rw [if_neg (by omega), if_pos (by simp)]
      simp [hj]
    · simp only [List.length_cons]
      by_cases d : o + 1 ≤ j ∧ j < o + 1 + news.length
      · rw [if_pos d, if_pos (by omega), show j - o = (j - (o + 1)) + 1 by omega, List.getElem?_cons_succ]
      · rw [if_neg d, if_neg (by omega), Array.getElem?_setIfInBounds, if_neg c]
theorem below_setCells {n : Nat} {w : World} (b : Nat) (hb : n ≤ b) : ∀ (news : List Value) (o : Nat) {w' : World}, Below n w w' → Below n w (w'.setCells b o news)
  | [], _, _, h => h
  | v :: news, o, _, h => below_setCells b hb news (o + 1) (h.setCell hb v)

set_option maxHeartbeats 400000 in
set_option maxRecDepth 100000 in
theorem new_any (w : World) :
    Calls Try.prog 24 #[] w fun e w' => e = .returned (.pointer (some ⟨w.heap.size, 0, none⟩)) ∧ w'.heap[w.heap.size]? = some (.cells (hcells (hzero 7424)) 83 (0, 0)) ∧ Below w.heap.size w w' := by
  have hw : (w.alloc (.cells Try.zeroCells83 83)).heap[w.heap.size]? = some (.cells Try.zeroCells83 83 (0, 0)) := blk_new w _
  have hcl : ∀ ty, (Builtin.clear_ #[29] ty #[.slice (some ⟨w.heap.size, 0, none⟩) 7424 7424]).run Try.prog (w.alloc (.cells Try.zeroCells83 83)) = .ok (.tuple #[]) ((w.alloc (.cells Try.zeroCells83 83)).setCells w.heap.size 0 (List.replicate 7424 (.int .u64 0))) := fun ty =>
    Lib.run_clear_slice _ 29 22 ty (.int .u64 0) Try.underlying29 Try.zeroValue22 rfl rfl w.heap.size 0 7424 7424 (by omega) (fun j hj => by rw [blk_cell hw, Array.getElem?_eq_getElem (by rw [Try.zeroCells83_size]; omega)]; rfl) (fun j hj => blk_frozen hw _)
  go_enter Try.func24, Try.ntmps24
  go_wp2
  refine bodyPost_ret (v := .pointer (some ⟨w.heap.size, 0, none⟩)) (by simp [results, Try.results24, go_sem]) rfl ⟨rfl, ?_, ?_⟩
  · obtain ⟨cs', h1, h2, h3⟩ := heap_setCells w.heap.size 83 (List.replicate 7424 (.int .u64 0)) 0 _ _ hw
    have e : cs' = hcells (hzero 7424) := by
      rw [Try.zeroCells83_size] at h2 h3
      refine Array.ext (by rw [h2, hcells_size, hzero_length]) fun i hi hj => ?_
      have := h3 i (by omega)
      rw [if_pos (by rw [List.length_replicate]; omega), Array.getElem?_eq_getElem hi, List.getElem?_replicate, if_pos (by omega)] at this
      rw [Option.some.inj this]
      have h4 := hzero_cells 7424 i (by omega)
      rw [Array.getElem?_eq_getElem hj] at h4
      exact (Option.some.inj h4).symm
    rw [← e]; exact h1
  · exact below_setCells _ (Nat.le_refl _) _ _ ((Below.refl _ _).alloc (Nat.le_refl _) _)
end Go.Proofs.Ytmhejpcbgknncaa
