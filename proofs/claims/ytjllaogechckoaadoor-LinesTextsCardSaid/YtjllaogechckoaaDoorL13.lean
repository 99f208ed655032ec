/- Layers 2, 3 and 13: the references, and the types of places. -/
import Derived.Test.YtjllaogechckoaaDoorL02
namespace Go.Proofs.YtjllaogechckoaaDoor
open Go.RowKit
set_option linter.unusedSimpArgs false
set_option linter.unusedVariables false

def tyWith (n : Int) : Ty := if n < 2 then ⟨n + 1, 0⟩ else ⟨n / 2 + 2, n % 2 + 1⟩

def tyNum (t : Ty) : Int := if t = ⟨1, 0⟩ then 0 else if t = ⟨2, 0⟩ then 1 else if t = ⟨3, 1⟩ then 2 else if t = ⟨3, 2⟩ then 3 else if t = ⟨4, 1⟩ then 4 else if t = ⟨4, 2⟩ then 5 else if t = ⟨5, 1⟩ then 6 else if t = ⟨5, 2⟩ then 7 else -1
theorem tyNum_with {k : Nat} {t : Ty} (h : k < 8) (e : tyWith k = t) : tyNum t = k := by
  subst e
  obtain rfl | rfl | rfl | rfl | rfl | rfl | rfl | rfl : k = 0 ∨ k = 1 ∨ k = 2 ∨ k = 3 ∨ k = 4 ∨ k = 5 ∨ k = 6 ∨ k = 7 := by omega
  all_goals rfl
theorem tyNum_none {t : Ty} (h : ∀ j : Nat, j < 8 → tyWith j ≠ t) : tyNum t = -1 := by
  have h0 := h 0 (by omega); have h1 := h 1 (by omega); have h2 := h 2 (by omega); have h3 := h 3 (by omega)
  have h4 := h 4 (by omega); have h5 := h 5 (by omega); have h6 := h 6 (by omega); have h7 := h 7 (by omega)
  simp only [tyNum]
  rw [if_neg (fun e => h0 e.symm), if_neg (fun e => h1 e.symm), if_neg (fun e => h2 e.symm), if_neg (fun e => h3 e.symm), if_neg (fun e => h4 e.symm), if_neg (fun e => h5 e.symm), if_neg (fun e => h6 e.symm), if_neg (fun e => h7 e.symm)]
theorem tyNum_iff (t : Ty) : tyNum t < 0 ↔ ¬ TyOk t := by
  obtain ⟨a, b⟩ := t
  simp only [tyNum, TyOk, Ty.mk.injEq]
  constructor
  · intro h; (repeat' split at h) <;> omega
  · intro h; rw [if_neg (by omega), if_neg (by omega), if_neg (by omega), if_neg (by omega), if_neg (by omega), if_neg (by omega), if_neg (by omega), if_neg (by omega)]; omega

set_option maxHeartbeats 400000 in
theorem ref03_Check (p : Pl) (w : World) :
    Calls Tryd.prog 34 #[p.v] w (Ret w (.int .i64 (plErr p))) := by
  go_enter Tryd.func34, Tryd.ntmps34
  go_wp2
  all_goals (go_ret; refine Ret.int ?_ (by (repeat (first | (with_reducible exact Grow.refl _) | assumption | refine Grow.ext ?_ _ | refine Grow.alloc ?_ _ | refine Grow.drew ?_ | refine Grow.setCell ?_ (by first | (simp; done) | (simp; omega)) _ | refine Grow.trans ?_ (by assumption)))))
  all_goals (unfold plErr PlOk; grind)

def locErr (ts : List Ty) : Int := if LocOk ts then 0 else 8

end Go.Proofs.YtjllaogechckoaaDoor
