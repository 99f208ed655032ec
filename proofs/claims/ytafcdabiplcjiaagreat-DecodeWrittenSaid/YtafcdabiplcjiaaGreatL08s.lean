/- Layer 8: sizes, inputs, and functions that are recursive. -/
import Derived.Test.YtafcdabiplcjiaaGreatL08e
namespace Go.Proofs.YtafcdabiplcjiaaGreat
open Go.RowKit
set_option linter.unusedSimpArgs false
set_option linter.unusedVariables false

def ptsB (l : List Bk) : Nat := (l.map (fun b => b.stmts.length)).sum
def fnPts (f : Fn) : Nat := f.blocks.length + ptsB f.blocks
def prPts (l : List Fn) : Nat := (l.map fnPts).sum
theorem ptsB_snoc {l : List Bk} {k : Nat} {b : Bk} (h : Hid (l[k]? = some b)) : ptsB (l.take (k + 1)) = ptsB (l.take k) + b.stmts.length := by
  unfold ptsB; rw [List.take_add_one, h.out]; simp
theorem prPts_snoc {l : List Fn} {k : Nat} {f : Fn} (h : Hid (l[k]? = some f)) : prPts (l.take (k + 1)) = prPts (l.take k) + fnPts f := by
  unfold prPts; rw [List.take_add_one, h.out]; simp
theorem ptsB_le {l : List Bk} (h : ∀ b ∈ l, b.stmts.length ≤ 24) : ptsB l ≤ 24 * l.length := by
  induction l with
  | nil => simp [ptsB]
  | cons b l ih =>
    have h1 := h b (by simp)
    have h2 := ih (fun b hb => h b (by simp [hb]))
    unfold ptsB at h2 ⊢; simp only [List.map_cons, List.sum_cons, List.length_cons]; omega
theorem fnPts_le {f : Fn} (h : fnErr f = 0) : fnPts f ≤ 600 := by
  have := (fn_good h).1
  unfold small at this; simp only [Bool.and_eq_true, decide_eq_true_eq, List.all_eq_true] at this
  have h2 := ptsB_le (l := f.blocks) (fun b hb => by have := this.2 b hb; unfold smallBk at this; simpa using this)
  unfold fnPts; omega
theorem prPts_le {l : List Fn} (h : ∀ f ∈ l, fnErr f = 0) : prPts l ≤ 600 * l.length := by
  induction l with
  | nil => simp [prPts]
  | cons f l ih =>
    have h1 := fnPts_le (h f (by simp))
    have h2 := ih (fun b hb => h b (by simp [hb]))
    unfold prPts at h2 ⊢; simp only [List.map_cons, List.sum_cons, List.length_cons]; omega
def sizeF (f : Fn) : Int × Int := if fnErr f ≠ 0 then (0, fnErr f) else ((fnPts f : Int), 0)
def sizeP (p : Pr) : Int × Int := if prErr p ≠ 0 then (0, prErr p) else ((prPts p.funcs : Int), 0)
def inputsP (p : Pr) : Int × Int := if prErr p ≠ 0 then (0, prErr p) else ((p.funcs.getD 0 fnz).params, 0)
theorem take_le24 {l : List Bk} (h : ∀ b ∈ l, b.stmts.length ≤ 24) (hl : l.length ≤ 24) (k : Nat) : ptsB (l.take k) ≤ 576 := by
  have h1 := ptsB_le (l := l.take k) (fun b hb => h b (List.mem_of_mem_take hb))
  have h2 : (l.take k).length ≤ 24 := by rw [List.length_take]; omega
  omega
def recB (p : Pr) (f : Nat) : Bool := rnds (gr p) p.funcs.length 8 (gr p f) f
theorem recB_iff {p : Pr} (h : prErr p = 0) (f : Nat) : recB p f = true ↔ Rch (gr p) f f := by
  unfold recB
  rw [rnds_from (pr_ok h).2.1 (gr_lt h)]
  constructor
  · rintro (h | ⟨i, hi, hr⟩)
    · exact .one h
    · exact Rch.trans (.one hi) hr
  · intro h
    have key : ∀ c, Rch (gr p) f c → gr p f c = true ∨ ∃ i, gr p f i = true ∧ Rch (gr p) i c := by
      intro c hc
      induction hc with
      | one h => exact Or.inl h
      | next h1 h2 ih =>
        rcases ih with ih | ⟨i, hi, hr⟩
        · exact Or.inr ⟨_, ih, .one h2⟩
        · exact Or.inr ⟨i, hi, .next hr h2⟩
    exact key f h
def recP (p : Pr) (f : Int) : Bool × Int := if prErr p ≠ 0 then (false, prErr p) else if f < 0 ∨ (p.funcs.length : Int) ≤ f then (false, 2) else (recB p f.toNat, 0)
end Go.Proofs.YtafcdabiplcjiaaGreat
