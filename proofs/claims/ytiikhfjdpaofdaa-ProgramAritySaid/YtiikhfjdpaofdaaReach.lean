/- Plain: what is reached in a graph of at most eight nodes. -/
namespace Go.Proofs.Ytiikhfjdpaofdaa
set_option linter.unusedVariables false

/-- c is reached from s by one step or more. -/
inductive Rch (g : Nat → Nat → Bool) (s : Nat) : Nat → Prop
  | one {c : Nat} : g s c = true → Rch g s c
  | next {m c : Nat} : Rch g s m → g m c = true → Rch g s c
theorem Rch.lt {g : Nat → Nat → Bool} {s c n : Nat} (hg : ∀ i c, g i c = true → c < n) (h : Rch g s c) : c < n := by
  cases h with
  | one h => exact hg _ _ h
  | next _ h => exact hg _ _ h
/-- A set that holds what s steps to, and is closed, holds all. -/
theorem Rch.mem {g : Nat → Nat → Bool} {s c : Nat} {P : Nat → Prop} (h0 : ∀ c, g s c = true → P c) (h1 : ∀ m c, P m → g m c = true → P c) (h : Rch g s c) : P c := by
  induction h with
  | one h => exact h0 _ h
  | next _ h ih => exact h1 _ _ ih h
theorem Rch.trans {g : Nat → Nat → Bool} {s m c : Nat} (h : Rch g s m) (k : Rch g m c) : Rch g s c := by
  induction k with
  | one k => exact .next h k
  | next _ k ih => exact .next ih k
def stepR (g : Nat → Nat → Bool) (h : Nat → Bool) (i : Nat) : Nat → Bool := if h i = true then (fun x => h x || g i x) else h
def rnd (g : Nat → Nat → Bool) (n : Nat) (h : Nat → Bool) : Nat → Bool := (List.range n).foldl (stepR g) h
def rnds (g : Nat → Nat → Bool) (n : Nat) : Nat → (Nat → Bool) → (Nat → Bool)
  | 0, h => h
  | k + 1, h => rnd g n (rnds g n k h)
theorem stepR_le (g : Nat → Nat → Bool) (h : Nat → Bool) (i x : Nat) (hx : h x = true) : stepR g h i x = true := by
  unfold stepR; split <;> simp [hx]
theorem fold_le (g : Nat → Nat → Bool) (l : List Nat) (h : Nat → Bool) (x : Nat) (hx : h x = true) : l.foldl (stepR g) h x = true := by
  induction l generalizing h with
  | nil => exact hx
  | cons i l ih => exact ih _ (stepR_le g h i x hx)
theorem fold_sound (g : Nat → Nat → Bool) (P : Nat → Prop) (hP : ∀ m c, P m → g m c = true → P c) (l : List Nat) (h : Nat → Bool) (h0 : ∀ x, h x = true → P x) : ∀ x, l.foldl (stepR g) h x = true → P x := by
  induction l generalizing h with
  | nil => exact h0
  | cons i l ih =>
    refine ih _ (fun x hx => ?_)
    unfold stepR at hx
    split at hx
    · rename_i hi
      simp only [Bool.or_eq_true] at hx
      rcases hx with hx | hx
      · exact h0 x hx
      · exact hP i x (h0 i hi) hx
    · exact h0 x hx
theorem fold_step (g : Nat → Nat → Bool) (l : List Nat) (h : Nat → Bool) (i x : Nat) (hi : i ∈ l) (hh : h i = true) (hg : g i x = true) : l.foldl (stepR g) h x = true := by
  induction l generalizing h with
  | nil => cases hi
  | cons j l ih =>
    rcases List.mem_cons.1 hi with rfl | hi
    · refine fold_le g l _ x ?_
      unfold stepR; rw [if_pos hh]; simp [hg]
    · exact ih _ hi (stepR_le g h j i hh)
theorem countP_lt {l : List Nat} {p q : Nat → Bool} (hle : ∀ x ∈ l, p x = true → q x = true) {a : Nat} (ha : a ∈ l) (hp : p a = false) (hq : q a = true) : l.countP p < l.countP q := by
  induction l with
  | nil => cases ha
  | cons b l ih =>
    have hm : l.countP p ≤ l.countP q := List.countP_mono_left (fun x hx => hle x (List.mem_cons_of_mem _ hx))
    rw [List.countP_cons, List.countP_cons]
    rcases List.mem_cons.1 ha with rfl | ha
    · simp [hp, hq]; omega
    · have h1 := ih (fun x hx => hle x (List.mem_cons_of_mem _ hx)) ha
      have h2 := hle b (by simp)
      cases hb : p b
      · simp; omega
      · rw [h2 hb]; simp; omega
def Clo (g : Nat → Nat → Bool) (h : Nat → Bool) : Prop := ∀ i x, h i = true → g i x = true → h x = true
theorem clo_fix {g : Nat → Nat → Bool} {h : Nat → Bool} (hc : Clo g h) (l : List Nat) : l.foldl (stepR g) h = h := by
  induction l with
  | nil => rfl
  | cons i l ih =>
    have e : stepR g h i = h := by
      unfold stepR; split
      · rename_i hi
        funext x
        cases hx : h x
        · cases hgx : g i x
          · rfl
          · have := hc i x hi hgx; rw [hx] at this; cases this
        · rfl
      · rfl
    rw [List.foldl_cons, e, ih]
theorem rnds_clo {g : Nat → Nat → Bool} {n N : Nat} (hn : n ≤ N) (hg : ∀ i c, g i c = true → i < n ∧ c < n) (h : Nat → Bool) : ∀ k, Clo g (rnds g n k h) ∨ k ≤ (List.range N).countP (rnds g n k h) := by
  intro k
  induction k with
  | zero => exact Or.inr (Nat.zero_le _)
  | succ k ih =>
    rcases ih with ih | ih
    · left
      show Clo g (rnd g n (rnds g n k h))
      unfold rnd; rw [clo_fix ih]; exact ih
    · by_cases hc : Clo g (rnds g n k h)
      · left
        show Clo g (rnd g n (rnds g n k h))
        unfold rnd; rw [clo_fix hc]; exact hc
      · right
        have : ∃ i x, rnds g n k h i = true ∧ g i x = true ∧ rnds g n k h x = false := by
          apply Classical.byContradiction
          intro hno
          apply hc
          intro i x hi hgx
          cases hx : rnds g n k h x
          · exact absurd ⟨i, x, hi, hgx, hx⟩ hno
          · rfl
        obtain ⟨i, x, hi, hgx, hx⟩ := this
        have hlt := hg i x hgx
        have : (List.range N).countP (rnds g n k h) < (List.range N).countP (rnds g n (k + 1) h) :=
          countP_lt (fun y _ hy => fold_le g _ _ y hy) (a := x) (List.mem_range.2 (by omega)) hx (fold_step g (List.range n) _ i x (List.mem_range.2 hlt.1) hi hgx)
        omega
theorem countP_all {l : List Nat} {p : Nat → Bool} (h : l.length ≤ l.countP p) : ∀ x ∈ l, p x = true := by
  have := List.countP_le_length (p := p) (l := l)
  exact List.countP_eq_length.1 (by omega)
theorem rnds_le (g : Nat → Nat → Bool) (n : Nat) (h : Nat → Bool) (x : Nat) (hx : h x = true) : ∀ k, rnds g n k h x = true
  | 0 => hx
  | k + 1 => fold_le g _ _ x (rnds_le g n h x hx k)
theorem rnds_sound (g : Nat → Nat → Bool) (n : Nat) (P : Nat → Prop) (hP : ∀ m c, P m → g m c = true → P c) (h : Nat → Bool) (h0 : ∀ x, h x = true → P x) : ∀ k x, rnds g n k h x = true → P x
  | 0 => h0
  | k + 1 => fold_sound g P hP _ _ (rnds_sound g n P hP h h0 k)
theorem rnds_closed {g : Nat → Nat → Bool} {n N : Nat} (hn : n ≤ N) (hg : ∀ i c, g i c = true → i < n ∧ c < n) (h : Nat → Bool) : Clo g (rnds g n N h) := by
  rcases rnds_clo hn hg h N with h | h
  · exact h
  · intro i x hi hgx
    exact countP_all (l := List.range N) (by simpa using h) x (List.mem_range.2 (by have := hg i x hgx; omega))
/-- Rounds: s, and what is reached from it. -/
theorem rnds_from {g : Nat → Nat → Bool} {n N : Nat} (hn : n ≤ N) (hg : ∀ i c, g i c = true → i < n ∧ c < n) (h : Nat → Bool) (x : Nat) : rnds g n N h x = true ↔ (h x = true ∨ ∃ i, h i = true ∧ Rch g i x) := by
  constructor
  · refine rnds_sound g n (fun x => h x = true ∨ ∃ i, h i = true ∧ Rch g i x) ?_ h (fun x hx => Or.inl hx) N x
    intro m c hm hgm
    rcases hm with hm | ⟨i, hi, hr⟩
    · exact Or.inr ⟨m, hm, .one hgm⟩
    · exact Or.inr ⟨i, hi, .next hr hgm⟩
  · rintro (hx | ⟨i, hi, hr⟩)
    · exact rnds_le g n h x hx N
    · have hc := rnds_closed hn hg h
      exact hr.mem (P := fun x => rnds g n N h x = true) (fun c hgc => hc i c (rnds_le g n h i hi N) hgc) (fun m c hm hgm => hc m c hm hgm)
end Go.Proofs.Ytiikhfjdpaofdaa
