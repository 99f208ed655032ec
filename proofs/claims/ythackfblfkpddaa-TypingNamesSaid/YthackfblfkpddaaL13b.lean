/- Layer 13: types of places. -/
import Derived.Test.YthackfblfkpddaaL13
namespace Go.Proofs.Ythackfblfkpddaa
open Go.RowKit
set_option linter.unusedSimpArgs false
set_option linter.unusedVariables false

def drf (t : Ty) (d : Bool) : Option Ty := if d = true then (if 3 ≤ t.kind then some ⟨t.to, 0⟩ else none) else some t
def typedR (t : Ty) (p : Pl) : Option Ty := match drf t p.deref with | none => none | some u => if 0 < p.field then (if u.kind = 2 then some ⟨1, 0⟩ else none) else some u
def typed (t : Ty) (p : Pl) : Option Ty := match drf t p.deref with | none => none | some u => if p.field = 0 then some u else (if u.kind = 2 then some ⟨1, 0⟩ else none)
theorem typedR_eq (t : Ty) (p : Pl) (h : 0 ≤ p.field) : typedR t p = typed t p := by
  unfold typedR typed; cases drf t p.deref <;> grind
abbrev optTy (o : Option Ty) : Ty := o.getD ⟨0, 0⟩
def locAt (ts : List Ty) (p : Pl) : Ty := ts.getD p.loc.toNat ⟨0, 0⟩
theorem locAt_eq {ts : List Ty} {k : Nat} {d : Bool} {f : Int} {t : Ty} (h : Hid (ts[k]? = some t)) : locAt ts ⟨k, d, f⟩ = t := by
  unfold locAt; simp [List.getD_eq_getElem?_getD, h.out]
theorem locErr_or (t : List Ty) : locErr t = 0 ∨ locErr t = 8 := by unfold locErr; split <;> simp
theorem locErr_iff (t : List Ty) : locErr t = 0 ↔ LocOk t = true := by unfold locErr; split <;> simp_all
theorem locOk_at {ts : List Ty} {t : Ty} {k : Nat} (h : LocOk ts = true) (ht : ts[k]? = some t) : TyOk t := by
  unfold LocOk at h; simp only [Bool.and_eq_true, List.all_eq_true] at h; exact of_decide_eq_true (h.2 _ (List.mem_of_getElem? ht))

def askedR (ts : List Ty) (p : Pl) : Int := if LocOk ts = false ∨ ¬ PlOk p then 8 else if ts.length ≤ p.loc then 6 else if (typedR (locAt ts p) p).isNone then 42 else 0

theorem asked_ok {ts : List Ty} {p : Pl} (h : askedR ts p = 0) : LocOk ts = true ∧ PlOk p ∧ p.loc < ts.length ∧ (typedR (locAt ts p) p).isSome = true := by
  unfold askedR at h
  by_cases h1 : LocOk ts = false ∨ ¬ PlOk p
  · rw [if_pos h1] at h; omega
  rw [if_neg h1] at h
  by_cases h2 : (ts.length : Int) ≤ p.loc
  · rw [if_pos h2] at h; omega
  rw [if_neg h2] at h
  cases h3 : typedR (locAt ts p) p with
  | none => rw [h3] at h; simp at h
  | some u => exact ⟨by cases e : LocOk ts <;> simp_all, by by_cases e : PlOk p; exact e; exact absurd (Or.inr e) h1, by omega, rfl⟩
def tyR (ts : List Ty) (p : Pl) : Ty × Int := if askedR ts p ≠ 0 then (⟨0, 0⟩, askedR ts p) else (optTy (typedR (locAt ts p) p), 0)

def writeR (ts : List Ty) (p : Pl) : Int := if askedR ts p ≠ 0 then askedR ts p else if p.deref = true ∧ (locAt ts p).kind = 3 then 42 else 0

end Go.Proofs.Ythackfblfkpddaa
