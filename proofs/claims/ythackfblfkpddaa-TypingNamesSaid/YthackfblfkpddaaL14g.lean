/- Layer 14: statements. -/
import Derived.Test.YthackfblfkpddaaL14f
namespace Go.Proofs.Ythackfblfkpddaa
open Go.RowKit
set_option linter.unusedSimpArgs false
set_option linter.unusedVariables false

def numErr (ts : List Ty) (o : Opd) : Int := intsErr ts [o]
theorem numErr_eq {ts : List Ty} {o : Opd} : numErr ts o = if (opTy ts o).2 = 0 then (if (opTy ts o).1.kind = 1 then 0 else 42) else (opTy ts o).2 := by
  unfold numErr intsErr
  by_cases h : (opTy ts o).2 = 0
  · have := opTy_ok h
    simp only [intsL, h]
    generalize (opTy ts o).1 = x at *
    grind
  · simp [intsL, h]

def stTy (ts : List Ty) (s : St) : Int :=
  if s.kind = 1 then (if (rvTy ts s.r).2 ≠ 0 then (rvTy ts s.r).2 else fitsErr ts s.pl (rvTy ts s.r).1)
  else if s.kind = 3 then (if (ts.length : Int) ≤ s.loc then 6 else 0)
  else numErr ts s.a
def stmtErr (ts : List Ty) (s : St) : Int := if locErr ts ≠ 0 then locErr ts else if stErr s ≠ 0 then stErr s else stTy ts s
theorem st_opd {s : St} (h : stOk s = true) (h1 : s.kind ≠ 1) (h3 : s.kind ≠ 3) : s.a.kind = 1 ∨ s.a.kind = 2 ∨ s.a.kind = 3 := by
  have : opdErr s.a = 0 := by unfold stOk at h; grind
  have := (opdErr_iff s.a).1 this; rcases this with q | q; exact Or.inl q.1; exact Or.inr q.1
theorem st_rv {s : St} (h : stOk s = true) (h1 : s.kind = 1) : rvOk s.r = true := by unfold stOk at h; grind

end Go.Proofs.Ythackfblfkpddaa
