/- Rising lists of numbers: one more, the least 1024, both together. Plain Lean, no program in sight. -/
namespace Go.Proofs.Ytpjchgiemmnikaa.Pure
set_option linter.unusedVariables false
set_option linter.unusedSimpArgs false

/-- A list that rises. -/
abbrev Asc (l : List Int) : Prop := l.Pairwise (· < ·)
theorem asc_ext : ∀ {l m : List Int}, Asc l → Asc m → (∀ x, x ∈ l ↔ x ∈ m) → l = m := by
  intro l
  induction l with
  | nil =>
    intro m _ _ h
    cases m with
    | nil => rfl
    | cons y r => exact absurd ((h y).mpr (by simp)) (by simp)
  | cons x r ih =>
    intro m hl hm h
    cases m with
    | nil => exact absurd ((h x).mp (by simp)) (by simp)
    | cons y s =>
      obtain ⟨l1, l2⟩ := List.pairwise_cons.mp hl
      obtain ⟨m1, m2⟩ := List.pairwise_cons.mp hm
      have hxy : x = y := by
        rcases List.mem_cons.mp ((h x).mp (by simp)) with e | e
        · exact e
        · rcases List.mem_cons.mp ((h y).mpr (by simp)) with e2 | e2
          · exact e2.symm
          · have := m1 x e; have := l1 y e2; omega
      subst hxy
      congr 1
      refine ih l2 m2 fun z => ⟨fun hz => ?_, fun hz => ?_⟩
      · rcases List.mem_cons.mp ((h z).mp (by simp [hz])) with e | e
        · have := l1 z hz; omega
        · exact e
      · rcases List.mem_cons.mp ((h z).mpr (by simp [hz])) with e | e
        · have := m1 z hz; omega
        · exact e
/-- One more. -/
def kins (h : Int) : List Int → List Int
  | [] => [h]
  | x :: r => if h < x then h :: x :: r else if h = x then x :: r else x :: kins h r
theorem mem_kins (h : Int) (l : List Int) (x : Int) : x ∈ kins h l ↔ x = h ∨ x ∈ l := by
  induction l with
  | nil => simp [kins]
  | cons y r ih =>
    unfold kins
    split
    · simp
    · split
      · rename_i e; subst e; simp
      · simp only [List.mem_cons, ih]
        constructor
        · rintro (e | e | e)
          · exact .inr (.inl e)
          · exact .inl e
          · exact .inr (.inr e)
        · rintro (e | e | e)
          · exact .inr (.inl e)
          · exact .inl e
          · exact .inr (.inr e)
theorem asc_kins (h : Int) : ∀ {l : List Int}, Asc l → Asc (kins h l) := by
  intro l
  induction l with
  | nil => intro _; simp [kins]
  | cons y r ih =>
    intro hl
    obtain ⟨l1, l2⟩ := List.pairwise_cons.mp hl
    unfold kins
    split
    · refine List.pairwise_cons.mpr ⟨fun z hz => ?_, hl⟩
      rcases List.mem_cons.mp hz with e | e
      · omega
      · have := l1 z e; omega
    · split
      · exact hl
      · refine List.pairwise_cons.mpr ⟨fun z hz => ?_, ih l2⟩
        rcases (mem_kins h r z).mp hz with e | e
        · omega
        · exact l1 z e
theorem kins_mem {h : Int} {l : List Int} (ha : Asc l) (hm : h ∈ l) : kins h l = l :=
  asc_ext (asc_kins h ha) ha fun x => by
    rw [mem_kins]
    exact ⟨fun e => e.elim (fun e => by rw [e]; exact hm) id, .inr⟩
theorem kins_len {h : Int} : ∀ {l : List Int}, Asc l → h ∉ l → (kins h l).length = l.length + 1 := by
  intro l
  induction l with
  | nil => intro _ _; rfl
  | cons y r ih =>
    intro hl hn
    obtain ⟨l1, l2⟩ := List.pairwise_cons.mp hl
    unfold kins
    split
    · simp
    · split
      · rename_i e; subst e; simp at hn
      · simp [ih l2 (fun h => hn (by simp [h]))]
/-- How many are less. -/
def below (l : List Int) (x : Int) : Nat := (l.filter (fun y => decide (y < x))).length
theorem below_cons (y : Int) (l : List Int) (x : Int) : below (y :: l) x = (if y < x then 1 else 0) + below l x := by
  unfold below
  rw [List.filter_cons]
  by_cases c : y < x
  · rw [if_pos (by simpa using c), if_pos c]; simp; omega
  · rw [if_neg (by simpa using c), if_neg c]; omega
theorem below_none {l : List Int} {x : Int} (h : ∀ y ∈ l, x ≤ y) : below l x = 0 := by
  unfold below
  rw [List.length_eq_zero_iff, List.filter_eq_nil_iff]
  intro y hy
  have := h y hy
  simp; omega
theorem mem_take : ∀ (n : Nat) {l : List Int}, Asc l → ∀ x, x ∈ l.take n ↔ x ∈ l ∧ below l x < n := by
  intro n l
  induction l generalizing n with
  | nil => intro _ x; simp
  | cons y r ih =>
    intro hl x
    obtain ⟨l1, l2⟩ := List.pairwise_cons.mp hl
    cases n with
    | zero => simp
    | succ n =>
      rw [List.take_succ_cons, List.mem_cons, List.mem_cons, below_cons, ih n l2 x]
      by_cases e : x = y
      · subst e
        have := below_none (l := r) (x := x) (fun z hz => by have := l1 z hz; omega)
        simp [this]
      · constructor
        · rintro (h | ⟨h1, h2⟩)
          · exact absurd h e
          · have := l1 x h1
            rw [if_pos this]
            exact ⟨.inr h1, by omega⟩
        · rintro ⟨h1 | h1, h2⟩
          · exact absurd h1 e
          · have := l1 x h1
            rw [if_pos this] at h2
            exact .inr ⟨h1, by omega⟩
theorem asc_take {l : List Int} (h : Asc l) (n : Nat) : Asc (l.take n) := h.sublist (List.take_sublist n l)
theorem nodup_le : ∀ {l m : List Int}, l.Nodup → (∀ x ∈ l, x ∈ m) → l.length ≤ m.length := by
  intro l
  induction l with
  | nil => intro m _ _; exact Nat.zero_le _
  | cons x r ih =>
    intro m hn h
    obtain ⟨h1, h2⟩ := List.nodup_cons.mp hn
    have hx := h x (by simp)
    have := ih (m := m.erase x) h2 (fun z hz => (List.mem_erase_of_ne (by rintro rfl; exact h1 hz)).mpr (h z (by simp [hz])))
    rw [List.length_erase_of_mem hx] at this
    have := List.length_pos_of_mem hx
    rw [List.length_cons]; omega
theorem asc_nodup {l : List Int} (h : Asc l) : l.Nodup := List.Pairwise.imp (fun h => by omega) h
/-- The number of those below depends on who is in alone. -/
theorem below_le {l m : List Int} (hl : Asc l) (x : Int) (h : ∀ y, y ∈ l → y < x → y ∈ m) : below l x ≤ below m x := by
  unfold below
  refine nodup_le (asc_nodup (hl.sublist List.filter_sublist)) fun z hz => ?_
  rw [List.mem_filter] at hz ⊢
  exact ⟨h z hz.1 (by simpa using hz.2), hz.2⟩
theorem below_mono {l m : List Int} (hl : Asc l) (h : ∀ y, y ∈ l → y ∈ m) (x : Int) : below l x ≤ below m x := below_le hl x fun y hy _ => h y hy
theorem below_up (l : List Int) {x y : Int} (h : x ≤ y) : below l x ≤ below l y := by
  unfold below
  induction l with
  | nil => exact Nat.le_refl _
  | cons z l ih =>
    rw [List.filter_cons, List.filter_cons]
    by_cases c : z < x
    · rw [if_pos (by simpa using c), if_pos (by simp; omega)]; simp only [List.length_cons]; omega
    · rw [if_neg (by simpa using c)]
      split
      · simp only [List.length_cons]; omega
      · exact ih
theorem below_len (l : List Int) (x : Int) : below l x ≤ l.length := List.length_filter_le _ _
theorem below_all {l : List Int} {x : Int} (h : ∀ y ∈ l, y < x) : below l x = l.length := by
  unfold below
  rw [List.filter_eq_self.mpr (fun y hy => by simpa using h y hy)]
/-- All of a list, in order, each once. -/
def kall (s l : List Int) : List Int := l.foldl (fun s h => kins h s) s
theorem asc_kall {l : List Int} : ∀ {s : List Int}, Asc s → Asc (kall s l) := by
  induction l with
  | nil => intro s h; exact h
  | cons x l ih => intro s h; exact ih (asc_kins x h)
theorem mem_kall {l : List Int} : ∀ {s : List Int} (x : Int), x ∈ kall s l ↔ x ∈ s ∨ x ∈ l := by
  induction l with
  | nil => intro s x; simp [kall]
  | cons y l ih =>
    intro s x
    show x ∈ kall (kins y s) l ↔ _
    rw [ih, mem_kins, List.mem_cons]
    exact ⟨fun h => h.elim (fun h => h.elim (fun h => .inr (.inl h)) .inl) (fun h => .inr (.inr h)), fun h => h.elim (fun h => .inl (.inr h)) (fun h => h.elim (fun h => .inl (.inl h)) .inr)⟩
/-- The least n of both: what is no more among the least n of one is none of both together. -/
theorem take_union (n : Nat) {a b u v : List Int} (hb : Asc b) (hu : Asc u) (hv : Asc v) (mu : ∀ x, x ∈ u ↔ x ∈ a ∨ x ∈ b) (mv : ∀ x, x ∈ v ↔ x ∈ a ∨ x ∈ b.take n) : v.take n = u.take n := by
  have sub : ∀ y, y ∈ v → y ∈ u := fun y hy => by
    rw [mv] at hy; rw [mu]
    rcases hy with h | h
    · exact .inl h
    · exact .inr (List.mem_of_mem_take h)
  refine asc_ext (asc_take hv n) (asc_take hu n) fun x => ?_
  rw [mem_take n hv, mem_take n hu]
  have le := below_mono hv sub x
  constructor
  · rintro ⟨h1, h2⟩
    refine ⟨sub x h1, ?_⟩
    by_cases all : ∀ y, y ∈ u → y < x → y ∈ v
    · exact Nat.lt_of_le_of_lt (below_le hu x all) h2
    · exfalso
      have : ∃ y, y ∈ u ∧ y < x ∧ y ∉ v := Classical.byContradiction fun hh => all fun y h1 h2 => Classical.byContradiction fun h3 => hh ⟨y, h1, h2, h3⟩
      obtain ⟨y, y1, y2, y3⟩ := this
      have yb : y ∈ b := by
        rcases (mu y).mp y1 with h | h
        · exact absurd ((mv y).mpr (.inl h)) y3
        · exact h
      have yn : ¬ below b y < n := fun h => y3 ((mv y).mpr (.inr ((mem_take n hb y).mpr ⟨yb, h⟩)))
      have bl := below_len b y
      have tl : (b.take n).length = n := by rw [List.length_take]; omega
      have ba : below (b.take n) x = n := by
        rw [below_all, tl]
        intro z hz
        have := ((mem_take n hb z).mp hz).2
        rcases Int.lt_or_le z y with c | c
        · omega
        · have := below_up b c; omega
      have := below_le (m := v) (asc_take hb n) x fun z hz _ => (mv z).mpr (.inr hz)
      omega
  · rintro ⟨h1, h2⟩
    refine ⟨?_, by omega⟩
    rw [mv]
    rcases (mu x).mp h1 with h | h
    · exact .inl h
    · refine .inr ((mem_take n hb x).mpr ⟨h, ?_⟩)
      exact Nat.lt_of_le_of_lt (below_mono hb (fun y hy => (mu y).mpr (.inr hy)) x) h2

/-! ### The least 1024 -/
def khash (s : List Int) (h : Int) : List Int := (kins h s).take 1024
def kmany (s l : List Int) : List Int := l.foldl khash s
theorem asc_khash {s : List Int} (hs : Asc s) (h : Int) : Asc (khash s h) := asc_take (asc_kins h hs) 1024
theorem khash_len (s : List Int) (h : Int) : (khash s h).length ≤ 1024 := by unfold khash; rw [List.length_take]; omega
theorem kmany_eq {l : List Int} : ∀ {s : List Int}, Asc s → s.length ≤ 1024 → kmany s l = (kall s l).take 1024 := by
  induction l with
  | nil => intro s _ hs; show s = s.take 1024; rw [List.take_of_length_le hs]
  | cons h l ih =>
    intro s ha hs
    show kmany (khash s h) l = (kall (kins h s) l).take 1024
    rw [ih (asc_khash ha h) (khash_len s h)]
    have a1 := asc_kins h ha
    exact take_union 1024 (a := l) (b := kins h s) a1 (asc_kall a1) (asc_kall (asc_take a1 1024)) (fun x => by rw [mem_kall]; exact Or.comm) (fun x => by rw [mem_kall]; exact Or.comm)
theorem asc_kmany {s l : List Int} (ha : Asc s) (hs : s.length ≤ 1024) : Asc (kmany s l) := by rw [kmany_eq ha hs]; exact asc_take (asc_kall ha) 1024
theorem kmany_len {s l : List Int} (ha : Asc s) (hs : s.length ≤ 1024) : (kmany s l).length ≤ 1024 := by rw [kmany_eq ha hs, List.length_take]; omega
theorem kmany_snoc (s l : List Int) (h : Int) : kmany s (l ++ [h]) = khash (kmany s l) h := by simp [kmany, List.foldl_append]
/-- A list that may be, into nothing: the list. -/
theorem kmany_nil {l : List Int} (hl : Asc l) (h : l.length ≤ 1024) : kmany [] l = l := by
  rw [kmany_eq List.Pairwise.nil (by simp)]
  have : kall [] l = l := asc_ext (asc_kall List.Pairwise.nil) hl fun x => by rw [mem_kall]; simp
  rw [this, List.take_of_length_le h]
/-- What is held alike in two ways is the same. -/
theorem kmany_same {s s' l l' : List Int} (hs : Asc s) (h1 : s.length ≤ 1024) (hs' : Asc s') (h2 : s'.length ≤ 1024) (h : ∀ x, (x ∈ s ∨ x ∈ l) ↔ (x ∈ s' ∨ x ∈ l')) : kmany s l = kmany s' l' := by
  rw [kmany_eq hs h1, kmany_eq hs' h2]
  congr 1
  exact asc_ext (asc_kall hs) (asc_kall hs') fun x => by rw [mem_kall, mem_kall]; exact h x
/-- To take the least ones of a list ahead changes nothing. -/
theorem kmany_least {s b : List Int} (hs : Asc s) (h1 : s.length ≤ 1024) (hb : Asc b) : kmany s (b.take 1024) = kmany s b := by
  rw [kmany_eq hs h1, kmany_eq hs h1]
  exact take_union 1024 (a := s) (b := b) hb (asc_kall hs) (asc_kall hs) (fun x => mem_kall x) (fun x => mem_kall x)
end Go.Proofs.Ytpjchgiemmnikaa.Pure
