/- Layer 9: the law that different programs have different bytes. -/
import Derived.Test.YtafcdabiplcjiaaGreatL09l
namespace Go.Proofs.YtafcdabiplcjiaaGreat
open Go.RowKit
set_option linter.unusedSimpArgs false
set_option linter.unusedVariables false

theorem prL_small {p : Pr} (h : prErr p = 0) (hs : (encPr p).length ≤ 4000) : prL p = encPr p ∧ prR p = 0 := by
  unfold prL prR doneL doneE; rw [if_pos h, if_pos h, if_neg (by omega), if_neg (by omega)]; exact ⟨rfl, rfl⟩
theorem prL_great {p : Pr} (h : prErr p = 0) (hs : ¬ (encPr p).length ≤ 4000) : prL p = [] ∧ prR p = 18 := by
  unfold prL prR doneL doneE; rw [if_pos h, if_pos h, if_pos (by omega), if_pos (by omega)]; exact ⟨rfl, rfl⟩
theorem fnL_small {f : Fn} (h : fnErr f = 0) (hs : (encFn f).length ≤ 4000) : fnL f = encFn f ∧ fnR f = 0 := by
  unfold fnL fnR doneL doneE; rw [if_pos h, if_pos h, if_neg (by omega), if_neg (by omega)]; exact ⟨rfl, rfl⟩
theorem fnL_great {f : Fn} (h : fnErr f = 0) (hs : ¬ (encFn f).length ≤ 4000) : fnL f = [] ∧ fnR f = 18 := by
  unfold fnL fnR doneL doneE; rw [if_pos h, if_pos h, if_pos (by omega), if_pos (by omega)]; exact ⟨rfl, rfl⟩
theorem encFn_in {p : Pr} {f : Fn} (h : f ∈ p.funcs) : (encFn f).length ≤ (encPr p).length := by
  unfold encPr; rw [List.length_append]
  obtain ⟨s, t, e⟩ := List.append_of_mem h
  rw [e, List.flatMap_append, List.flatMap_cons]; simp only [List.length_append]; omega
theorem encFn_pos (f : Fn) : 1 ≤ (encFn f).length := by
  unfold encFn; have := vput_pos f.params.toNat; simp only [List.length_append]; omega
theorem encPr_pos (p : Pr) : 1 ≤ (encPr p).length := by
  unfold encPr; have := vput_pos p.funcs.length; simp only [List.length_append]; omega
end Go.Proofs.YtafcdabiplcjiaaGreat
