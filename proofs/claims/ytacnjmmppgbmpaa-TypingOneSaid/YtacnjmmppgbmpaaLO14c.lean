/- Layer 14: the law of one type. -/
import Derived.Test.YtacnjmmppgbmpaaLO14b
namespace Go.Proofs.Ytacnjmmppgbmpaa
open Go.RowKit
set_option linter.unusedSimpArgs false
set_option linter.unusedVariables false

theorem tyEq_iff (a b : Ty) : tyEq a b = true ↔ a = b := by
  obtain ⟨a1, a2⟩ := a; obtain ⟨b1, b2⟩ := b; simp [tyEq]
theorem law_TypingOne (v : Value) (ts : List Ty) (m : Ty) (o : Opd) (r : Rv) (p : Pl) (w : World) {F : Nat → Prop} (hv : Sl F w v ts) (hsz : ts.length * 2 ≤ 140737488351232) (hm : m.wf) (ho : o.wf) (hr : r.wf) (hp : p.wf) :
    Calls Try.prog 4 #[v, m.v, o.v, r.v, p.v] w (Ret w (.bool true)) := by
  refine one_walk v ts m o r p w hv hm ho hr hp hsz (operandTy ts o).1 (operandTy (ts ++ [m]) o).1 (rvalueTy ts r).1 (rvalueTy (ts ++ [m]) r).1 (plaTy ts p).1 (operandTy ts o).2 (operandTy (ts ++ [m]) o).2 (rvalueTy ts r).2 (rvalueTy (ts ++ [m]) r).2
    (stmtErr ts (asSt p r)) (plaTy ts p).2 (plaWr ts p) rfl rfl rfl rfl rfl rfl rfl ?_
  by_cases hl : locErr ts = 0
  · by_cases hl' : locErr (ts ++ [m]) = 0
    · refine Or.inr (Or.inr ⟨by simpa using hl, by simpa using hl', ?_, ?_⟩)
      · by_cases he : (operandTy ts o).2 = 0
        · have := operand_longer (o := o) hl hl' he
          exact Or.inl ⟨he, by rw [this]; exact he, by rw [this]⟩
        · exact Or.inr ⟨by simpa using he, by simpa using he⟩
      · have hi := @as_iff ts p r hl
        by_cases hc : (rvalueTy ts r).2 = 0
        · have hd := rvalue_longer (r := r) hl hl' hc
          have hd2 : (rvalueTy (ts ++ [m]) r).2 = 0 := by rw [hd]; exact hc
          have hd1 : (rvalueTy (ts ++ [m]) r).1 = (rvalueTy ts r).1 := by rw [hd]
          by_cases hs : stmtErr ts (asSt p r) = 0
          · obtain ⟨_, h2, h3, h4⟩ := hi.1 hs
            exact Or.inr (Or.inl ⟨hc, hd2, hd1, hs, h2, h3, h4⟩)
          · have hs' : (stmtErr ts (asSt p r) == 0) = false := by simpa using hs
            by_cases h2 : (plaTy ts p).2 = 0
            · by_cases h3 : (plaTy ts p).1 = (rvalueTy ts r).1
              · by_cases h4 : plaWr ts p = 0
                · exact absurd (hi.2 ⟨hc, h2, h3, h4⟩) hs
                · exact Or.inr (Or.inr (Or.inr (Or.inr ⟨hc, hd2, hd1, hs', h2, h3, by simpa using h4⟩)))
              · refine Or.inr (Or.inr (Or.inr (Or.inl ⟨hc, hd2, hd1, hs', h2, ?_⟩)))
                cases q : tyEq (plaTy ts p).1 (rvalueTy ts r).1
                · rfl
                · exact absurd ((tyEq_iff _ _).1 q) h3
            · exact Or.inr (Or.inr (Or.inl ⟨hc, hd2, hd1, hs', by simpa using h2⟩))
        · refine Or.inl ⟨by simpa using hc, by simpa using hc, ?_⟩
          have : stmtErr ts (asSt p r) ≠ 0 := fun q => hc (hi.1 q).1
          simpa using this
    · exact Or.inr (Or.inl ⟨by simpa using hl, by simpa using hl'⟩)
  · exact Or.inl (by simpa using hl)
end Go.Proofs.Ytacnjmmppgbmpaa
