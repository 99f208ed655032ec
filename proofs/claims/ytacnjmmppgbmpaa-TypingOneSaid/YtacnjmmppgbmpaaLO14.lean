/- Layer 14: types in more locals. -/
import Derived.Test.YtacnjmmppgbmpaaLR14
import Derived.Test.YtacnjmmppgbmpaaL14h
namespace Go.Proofs.Ytacnjmmppgbmpaa
open Go.RowKit
set_option linter.unusedSimpArgs false
set_option linter.unusedVariables false

section
variable {ts : List Ty} {m : Ty}
theorem pla_longer {p : Pl} (hl : locErr (ts ++ [m]) = 0) (h : (plaTy ts p).2 = 0) : plaTy (ts ++ [m]) p = plaTy ts p := by
  have h0 := plaTy_ok h
  obtain ⟨h1, h2, h3⟩ := plaErr_ok h0
  have h0' : plaErr (ts ++ [m]) p = 0 := by
    unfold plaErr
    rw [if_neg (by rintro (q | q); exact q ((locErr_iff _).1 hl); exact q h2), if_neg (by simp; omega)]
  have e : locAt (ts ++ [m]) p = locAt ts p := by
    have := h2.1
    unfold locAt; rw [List.getD_eq_getElem?_getD, List.getD_eq_getElem?_getD, List.getElem?_append_left (by omega)]
  unfold plaTy; rw [h0, h0', e]
theorem wr_longer {p : Pl} (hl : locErr (ts ++ [m]) = 0) (h : (plaTy ts p).2 = 0) : plaWr (ts ++ [m]) p = plaWr ts p := by
  obtain ⟨h1, h2, h3⟩ := plaErr_ok (plaTy_ok h)
  have e : locAt (ts ++ [m]) p = locAt ts p := by
    have := h2.1
    unfold locAt; rw [List.getD_eq_getElem?_getD, List.getD_eq_getElem?_getD, List.getElem?_append_left (by omega)]
  unfold plaWr; rw [pla_longer hl h, e]
theorem op_longer {o : Opd} (hl : locErr (ts ++ [m]) = 0) (h : (opTy ts o).2 = 0) : opTy (ts ++ [m]) o = opTy ts o := by
  unfold opTy at *
  by_cases h1 : o.kind = 1
  · simp [h1]
  · by_cases h2 : (plaTy ts o.pl).2 = 0
    · rw [pla_longer hl h2]
    · rw [if_neg h1, if_pos h2] at h; exact absurd h h2
theorem operand_longer {o : Opd} (h0 : locErr ts = 0) (hl : locErr (ts ++ [m]) = 0) (h : (operandTy ts o).2 = 0) : operandTy (ts ++ [m]) o = operandTy ts o := by
  unfold operandTy at *
  simp only [h0, hl, ne_eq, not_true_eq_false, if_false] at h ⊢
  by_cases h2 : opdErr o = 0
  · simp only [h2, not_true_eq_false, if_false] at h ⊢
    rw [op_longer hl h]
  · rw [if_pos h2] at h; exact absurd h h2
theorem ints_longer (hl : locErr (ts ++ [m]) = 0) : ∀ (l : List Opd) (r : Bool), intsL ts r l = 0 → intsL (ts ++ [m]) r l = intsL ts r l
  | [], r, h => rfl
  | o :: l, r, h => by
    by_cases h1 : (opTy ts o).2 = 0
    · rw [intsL, if_neg (by simpa using h1)] at h
      rw [intsL, intsL, op_longer hl h1, if_neg (by simpa using h1), if_neg (by simpa using h1), ints_longer hl l _ h]
    · rw [intsL, if_pos h1] at h; exact absurd h h1
theorem rv_longer {r : Rv} (hl : locErr (ts ++ [m]) = 0) (h : (rvTy ts r).2 = 0) : rvTy (ts ++ [m]) r = rvTy ts r := by
  unfold rvTy at *
  by_cases h1 : r.kind = 1
  · simp only [if_pos h1] at h ⊢; exact op_longer hl h
  simp only [if_neg h1] at h ⊢
  have hi : intsErr ts [r.a, r.b] = 0 → intsErr (ts ++ [m]) [r.a, r.b] = intsErr ts [r.a, r.b] := fun q => ints_longer hl _ _ q
  by_cases h3 : r.kind = 3
  · simp only [if_pos h3] at h ⊢
    by_cases q : intsErr ts [r.a, r.b] = 0
    · rw [hi q]
    · rw [if_pos q] at h; exact absurd h q
  simp only [if_neg h3] at h ⊢
  by_cases h2 : r.kind = 2
  · simp only [if_pos h2] at h ⊢
    by_cases q : intsErr ts [r.a, r.b] = 0
    · rw [hi q]
    · rw [if_pos q] at h; exact absurd h q
  simp only [if_neg h2] at h ⊢
  unfold borTy at *
  by_cases q : (plaTy ts r.pl).2 = 0
  · rw [pla_longer hl q, wr_longer hl q]
  · rw [if_pos q] at h; exact absurd h q
theorem rvalue_longer {r : Rv} (h0 : locErr ts = 0) (hl : locErr (ts ++ [m]) = 0) (h : (rvalueTy ts r).2 = 0) : rvalueTy (ts ++ [m]) r = rvalueTy ts r := by
  unfold rvalueTy at *
  simp only [h0, hl, ne_eq, not_true_eq_false, if_false] at h ⊢
  by_cases h2 : rvErr r = 0
  · simp only [h2, not_true_eq_false, if_false] at h ⊢
    rw [rv_longer hl h]
  · rw [if_pos h2] at h; exact absurd h h2
end
abbrev useRv (o : Opd) : Rv := ⟨1, 0, 0, o, ⟨0, 0, ⟨0, false, 0⟩⟩, ⟨0, false, 0⟩⟩
theorem use_ty {ts : List Ty} {o : Opd} : rvalueTy ts (useRv o) = operandTy ts o := by
  have e : rvErr (useRv o) = opdErr o := by
    have := opdErr_or o
    unfold rvErr rvOk plZ PlZ opdZ OpdZ PlZ
    rcases this with q | q <;> simp [q]
  unfold rvalueTy operandTy rvTy; rw [e]; simp
abbrev asSt (p : Pl) (r : Rv) : St := ⟨1, p, r, ⟨0, 0, ⟨0, false, 0⟩⟩, 0⟩
theorem as_iff {ts : List Ty} {p : Pl} {r : Rv} (hl : locErr ts = 0) : stmtErr ts (asSt p r) = 0 ↔ ((rvalueTy ts r).2 = 0 ∧ (plaTy ts p).2 = 0 ∧ (plaTy ts p).1 = (rvalueTy ts r).1 ∧ plaWr ts p = 0) := by
  have h1 : stErr (asSt p r) = 0 ↔ (plErr p = 0 ∧ rvErr r = 0) := by
    rw [stErr_iff, rvErr_iff]; unfold stOk opdZ OpdZ PlZ; simp
  have h2 : plaWr ts p = 0 → (plaTy ts p).2 = 0 := by unfold plaWr; intro h; by_cases q : (plaTy ts p).2 = 0; exact q; rw [if_pos q] at h; exact absurd h q
  have h3 := @pla_pl ts p
  have h4 : (rvalueTy ts r) = if rvErr r ≠ 0 then (⟨0, 0⟩, rvErr r) else rvTy ts r := by unfold rvalueTy; rw [if_neg (by simpa using hl)]
  have h5 : stmtErr ts (asSt p r) = if stErr (asSt p r) ≠ 0 then stErr (asSt p r) else stTy ts (asSt p r) := by unfold stmtErr; rw [if_neg (by simpa using hl)]
  have h6 : stTy ts (asSt p r) = if (rvTy ts r).2 ≠ 0 then (rvTy ts r).2 else fitsErr ts p (rvTy ts r).1 := by unfold stTy; simp
  rw [h5, h6, h4]
  unfold fitsErr
  by_cases a1 : rvErr r = 0
  · by_cases a2 : (rvTy ts r).2 = 0
    · by_cases a3 : plaWr ts p = 0
      · have a4 := h2 a3
        have a5 := h3 a4
        have a6 := h1.2 ⟨a5, a1⟩
        have a7 : (plaTy ts p).1 = (rvTy ts r).1 ↔ ((plaTy ts p).1.kind = (rvTy ts r).1.kind ∧ (plaTy ts p).1.to = (rvTy ts r).1.to) := by
          generalize (plaTy ts p).1 = x; generalize (rvTy ts r).1 = y; cases x; cases y; simp
        simp [a1, a2, a3, a4, a6, a7]
      · by_cases a6 : stErr (asSt p r) = 0 <;> simp [a1, a2, a3, a6]
    · by_cases a6 : stErr (asSt p r) = 0 <;> simp [a1, a2, a6]
  · have a6 : stErr (asSt p r) ≠ 0 := fun q => a1 (h1.1 q).2
    simp [a1, a6]
end Go.Proofs.Ytacnjmmppgbmpaa
