/- Layer 14: the reference of rvalues. -/
import Derived.Test.YthackfblfkpddaaL14c
namespace Go.Proofs.Ythackfblfkpddaa
open Go.RowKit
set_option linter.unusedSimpArgs false
set_option linter.unusedVariables false

theorem slT_Type : SlT Try.prog 24 23 2 2 := SlT.mk' (z := .agg #[.int .u8 0, .int .u8 0]) Try.underlying24 (by kernel_rfl) rfl (by omega)

def Rng (lo hi b : Nat) : Prop := lo ≤ b ∧ b < hi
theorem Sl.rng {α : Type} [Rp α] {lo : Nat} {w : World} {v : Value} {xs : List α} (h : Sl (Fr (fun _ => False) lo) w v xs) : Sl (Rng lo w.heap.size) w v xs :=
  h.wide fun b hb hF => ⟨by rcases hF with q | q; exact q.elim; exact q, hb⟩

theorem opTy_err {ts : List Ty} {o : Opd} (h : (opTy ts o).2 ≠ 0) : opTy ts o = (⟨0, 0⟩, (opTy ts o).2) := by
  unfold opTy at *; grind
theorem plaTy_tyOk {ts : List Ty} {p : Pl} (h : (plaTy ts p).2 = 0) : TyOk (plaTy ts p).1 := by
  have h0 := plaTy_ok h
  obtain ⟨h1, h2, h3⟩ := plaErr_ok h0
  have ht : TyOk (locAt ts p) := by
    have hk : p.loc.toNat < ts.length := by omega
    have : ts[p.loc.toNat]? = some (locAt ts p) := by unfold locAt; simp [List.getD_eq_getElem?_getD, List.getElem?_eq_getElem hk]
    exact locOk_at h1 this
  have e : plaTy ts p = tyOut (typed (locAt ts p) p) := by unfold plaTy; rw [if_neg (by simpa using h0)]
  rw [e] at h ⊢
  clear e h0 h1 h2 h3
  generalize locAt ts p = t at *
  obtain ⟨a, b⟩ := t
  obtain ⟨l, d, f⟩ := p
  cases d
  · by_cases hf : f = 0
    · simp [typed, drf, hf, tyOut] at h ⊢; exact ht
    · by_cases h2 : a = 2
      · simp [typed, drf, hf, tyOut, h2]; exact Or.inl ⟨Or.inl rfl, rfl⟩
      · simp [typed, drf, hf, tyOut, h2] at h
  · by_cases h3 : 3 ≤ a
    · have hb : b = 1 ∨ b = 2 := by rcases ht with q | q; simp at q; omega; exact q.2
      by_cases hf : f = 0
      · simp [typed, drf, hf, tyOut, h3]; exact Or.inl ⟨hb, rfl⟩
      · by_cases h2 : b = 2
        · simp [typed, drf, hf, tyOut, h2, h3]; exact Or.inl ⟨Or.inl rfl, rfl⟩
        · simp [typed, drf, hf, tyOut, h2, h3] at h
    · simp [typed, drf, tyOut, h3] at h
theorem opTy_ok {ts : List Ty} {o : Opd} (h : (opTy ts o).2 = 0) : TyOk (opTy ts o).1 := by
  have := @plaTy_tyOk ts o.pl
  unfold opTy at *
  by_cases h1 : o.kind = 1
  · rw [if_pos h1]; exact Or.inl ⟨Or.inl rfl, rfl⟩
  rw [if_neg h1] at h ⊢
  by_cases h2 : (plaTy ts o.pl).2 ≠ 0
  · rw [if_pos h2] at h; exact absurd h h2
  rw [if_neg h2] at h ⊢
  by_cases h3 : ((o.kind == 3) != ((plaTy ts o.pl).1.kind == 4)) = true
  · rw [if_pos h3] at h; exact absurd h (by decide)
  rw [if_neg h3]; exact this (by simpa using h2)
theorem intsErr2 {ts : List Ty} {a b : Opd} (ha : (opTy ts a).2 = 0) (hb : (opTy ts b).2 = 0) : intsErr ts [a, b] = if (opTy ts a).1.kind = 1 ∧ (opTy ts b).1.kind = 1 then 0 else 42 := by
  have h1 := opTy_ok ha; have h2 := opTy_ok hb
  simp only [intsErr, intsL, ha, hb]
  generalize (opTy ts a).1 = x at *
  generalize (opTy ts b).1 = y at *
  grind
theorem tyOk_wf {t : Ty} (h : TyOk t) : t.wf := ⟨⟨by omega, by omega⟩, ⟨by omega, by omega⟩⟩
theorem rv_kinds {r : Rv} (h : rvOk r = true) : r.kind = 1 ∨ r.kind = 2 ∨ r.kind = 3 ∨ r.kind = 4 ∨ r.kind = 5 := by unfold rvOk at h; grind
theorem rv_part {r : Rv} {o : Opd} (h : rvOk r = true) (ho : o ∈ rvParts r) : o.kind = 1 ∨ o.kind = 2 ∨ o.kind = 3 := by
  have : opdErr o = 0 := by unfold rvOk at h; unfold rvParts at ho; grind
  have := (opdErr_iff o).1 this; rcases this with q | q; exact Or.inl q.1; exact Or.inr q.1
theorem rvTy_bad {ts : List Ty} {r : Rv} {o : Opd} {k : Nat} (hg : (rvParts r)[k]? = some o) (hp : ∀ q ∈ (rvParts r).take k, (opTy ts q).2 = 0) (h : (opTy ts o).2 ≠ 0) : rvTy ts r = (⟨0, 0⟩, (opTy ts o).2) := by
  have he := opTy_err h
  unfold rvTy
  by_cases h1 : r.kind = 1
  · rw [if_pos h1]
    simp only [rvParts, h1, if_true] at hg
    have : o = r.a := by cases k <;> simp at hg; exact hg.symm
    rw [← this]; exact he
  · by_cases h2 : r.kind = 2 ∨ r.kind = 3
    · have hi : intsErr ts [r.a, r.b] = (opTy ts o).2 := by
        simp only [rvParts, h1, h2, if_true, if_false] at hg hp
        match k, hg with
        | 0, hg => simp at hg; subst hg; simp [intsErr, intsL, h]
        | 1, hg => simp at hg; subst hg; have := hp r.a (by simp); simp [intsErr, intsL, h, this]
      rw [if_neg h1]
      by_cases h3 : r.kind = 3
      · rw [if_pos h3, hi, if_pos h]
      · rw [if_neg h3, if_pos (by omega), hi, if_pos h]
    · simp [rvParts, h1, h2] at hg
theorem oks_step {ts : List Ty} {l : List Opd} {k : Nat} {o : Opd} (hg : Hid (l[k]? = some o)) (hp : ∀ q ∈ l.take k, (opTy ts q).2 = 0) (h : (opTy ts o).2 = 0) : ∀ q ∈ l.take (k + 1), (opTy ts q).2 = 0 := by
  intro q hq
  rw [List.take_add_one, hg.out] at hq
  simp at hq
  rcases hq with hq | rfl
  · exact hp q hq
  · exact h
theorem take_map_snoc {α β : Type} {f : α → β} {l : List α} {k : Nat} {o : α} (hg : Hid (l[k]? = some o)) : (l.take k).map f ++ [f o] = (l.take (k + 1)).map f := by
  rw [List.take_add_one, hg.out]; simp

end Go.Proofs.Ythackfblfkpddaa
