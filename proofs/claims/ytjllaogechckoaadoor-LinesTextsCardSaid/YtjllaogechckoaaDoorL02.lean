/- Layers 2, 3, 13: types, places, and types of places. -/
import Derived.Test.YtjllaogechckoaaDoorTypes
namespace Go.Proofs.YtjllaogechckoaaDoor
open Go.RowKit
set_option linter.unusedSimpArgs false
set_option linter.unusedVariables false

abbrev TyOk (t : Ty) : Prop := ((t.kind = 1 ∨ t.kind = 2) ∧ t.to = 0) ∨ ((3 ≤ t.kind ∧ t.kind ≤ 5) ∧ (t.to = 1 ∨ t.to = 2))
def tyErr (t : Ty) : Int := if TyOk t then 0 else 8
abbrev PlOk (p : Pl) : Prop := 0 ≤ p.loc ∧ p.loc < 16 ∧ p.field ≤ 2
def plErr (p : Pl) : Int := if PlOk p then 0 else 8
def LocOk (ts : List Ty) : Bool := decide (1 ≤ ts.length) && decide (ts.length ≤ 16) && ts.all (fun t => decide (TyOk t))
theorem tyErr_iff (t : Ty) : tyErr t = 0 ↔ TyOk t := by unfold tyErr; split <;> simp_all
theorem plErr_iff (t : Pl) : plErr t = 0 ↔ PlOk t := by unfold plErr; split <;> simp_all [PlOk]
theorem tyErr_or (t : Ty) : tyErr t = 0 ∨ tyErr t = 8 := by unfold tyErr; split <;> simp
theorem plErr_or (t : Pl) : plErr t = 0 ∨ plErr t = 8 := by unfold plErr; split <;> simp

theorem all_step {α : Type} {p : α → Bool} {xs : List α} {k : Nat} {x : α} (hg : Hid (xs[k]? = some x)) (h : (xs.take k).all p = true) (hx : p x = true) : (xs.take (k + 1)).all p = true := by
  rw [List.take_add_one, hg.out]; simp only [Option.toList_some, List.all_append, h, List.all_cons, hx, List.all_nil, Bool.and_self]
theorem all_not {α : Type} {p : α → Bool} {xs : List α} {k : Nat} {x : α} (hg : Hid (xs[k]? = some x)) (hx : p x = false) : xs.all p = false := by
  rw [List.all_eq_false]; exact ⟨x, List.mem_of_getElem? hg.out, by simp [hx]⟩
theorem all_end {α : Type} {p : α → Bool} {xs : List α} {n k : Nat} (hn : Hid (n = xs.length)) (hk : n ≤ k) (h : (xs.take k).all p = true) : xs.all p = true := by
  rw [List.take_of_length_le (by rw [← hn.out]; exact hk)] at h; exact h

set_option maxHeartbeats 400000 in
theorem place_Check (p : Pl) (w : World) :
    Calls Tryd.prog 35 #[p.v] w (Ret w (.int .i64 (plErr p))) := by
  obtain ⟨l, d, f⟩ := p
  go_enter Tryd.func35, Tryd.ntmps35
  go_wp2
  all_goals (go_ret; refine Ret.int ?_ (by (repeat (first | (with_reducible exact Grow.refl _) | assumption | refine Grow.ext ?_ _ | refine Grow.alloc ?_ _ | refine Grow.drew ?_ | refine Grow.setCell ?_ (by first | (simp; done) | (simp; omega)) _ | refine Grow.trans ?_ (by assumption)))))
  all_goals (unfold plErr PlOk; (try simp only [beq_iff_eq, beq_eq_false_iff_ne, ne_eq] at *); first | (rw [if_pos (by omega)]; done) | (rw [if_neg (by omega)]; done))

def targetOf (t : Ty) : Ty × Int := if ¬ TyOk t then (⟨0, 0⟩, 8) else if t.to = 0 then (⟨0, 0⟩, 6) else (⟨t.to, 0⟩, 0)


def plaErr (ts : List Ty) (p : Pl) : Int := if ¬ LocOk ts ∨ ¬ PlOk p then 8 else if ts.length ≤ p.loc then 6 else 0

theorem locOk_len {ts : List Ty} {n : Nat} (h : Hid (n = ts.length)) (hn : n < 1 ∨ 16 < n) : LocOk ts = false := by
  unfold LocOk; rw [← h.out]; rcases hn with hn | hn <;> simp <;> omega
theorem locOk_all {ts : List Ty} {n : Nat} (h : Hid (n = ts.length)) (h1 : ¬ n < 1) (h2 : ¬ 16 < n) : LocOk ts = ts.all (fun t => decide (TyOk t)) := by
  unfold LocOk; rw [← h.out]; simp; omega

end Go.Proofs.YtjllaogechckoaaDoor
