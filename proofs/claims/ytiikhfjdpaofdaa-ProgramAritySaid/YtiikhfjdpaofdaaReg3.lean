/- Regions that draw their order: in all orders that there are, over any class of worlds; what only reads is taken first. -/
import Derived.Test.YtiikhfjdpaofdaaReg2
namespace Go.Proofs.Ytiikhfjdpaofdaa
open Go.RowKit
set_option linter.unusedSimpArgs false
set_option linter.unusedVariables false

section
variable {P : Program} {Q : Exit → Act → World → Prop} {C : World → Prop}

theorem J_quiet {l : List Oper} {fuel : Nat} {listed : Array Bool} {a : Act} {w : World} (i : Nat) {o : Oper} (hi : pickN l i = some o) (hB : takeB l.toArray listed i = true)
    (hp : plainOp o.op = true ∨ Region.wanted o (yielded l.toArray a.tmps) = false) (hS : C w)
    (h : wpQuiet P l.toArray C (fun a' => wpAnyH P .any l.toArray (Nrm Q) C fuel (listed.setIfInBounds i true) a' w) [o] a) : wpAnyH P .any l.toArray (Nrm Q) C (fuel + 1) listed a w := by
  have hi' := (pickN_eq l i).trans hi
  simp only [takeB, Bool.and_eq_true] at hB
  unfold wpQuiet at h
  by_cases hw : Region.wanted o (yielded l.toArray a.tmps) = true
  · rw [if_pos hw] at h
    obtain ⟨v, h1, h2⟩ := h
    have hpl : plainOp o.op = true := hp.resolve_right (by rw [hw]; decide)
    refine wpAnyH_take hi' hB.1 hB.2.2 hB.2.1 (fun _ _ _ h => (h : False).elim) (.inl ⟨hw, fun w' g => ?_⟩) hS h2
    have q := h1 w' g
    unfold Oper.quietAt at q
    have n1 := plain_enter (P := P) hpl a.eval w'
    have n2 := plain_skip (P := P) hpl a.eval w'
    generalize (execOp a.eval o).run P w' = r at q n1 n2
    cases r with
    | halt y w2 => exact q.elim
    | ok n w2 =>
      cases n with
      | value u => obtain ⟨rfl, rfl⟩ := q; rfl
      | skip => exact absurd rfl (n2 w2)
      | enter f args => exact absurd rfl (n1 f args w2)
      | _ => exact q.elim
  · rw [if_neg hw] at h
    exact wpAnyH_take hi' hB.1 hB.2.2 hB.2.1 (fun _ _ _ h => (h : False).elim) (.inr ⟨by simpa using hw, rfl⟩) hS h
/-- Of operation i: what is asked where it comes up. -/
def wpAt (P : Program) (l : List Oper) (Q : Exit → Act → World → Prop) (C : World → Prop) (fuel : Nat) (listed : Array Bool) (a : Act) (w : World) (i : Nat) : Prop :=
  ∃ o, pickN l i = some o ∧ ∀ K : Act → World → Prop, (∀ a' w'', C w'' → wpAnyH P .any l.toArray (Nrm Q) C fuel (listed.setIfInBounds i true) a' w'' → K a' w'') → wpList P l.toArray (Qn K (Nrm Q)) [o] a w
def wpAts (P : Program) (l : List Oper) (Q : Exit → Act → World → Prop) (C : World → Prop) (fuel : Nat) (listed : Array Bool) (a : Act) (w : World) : List Nat → Prop
  | [] => True
  | [i] => wpAt P l Q C fuel listed a w i
  | i :: is => wpAt P l Q C fuel listed a w i ∧ wpAts P l Q C fuel listed a w is
theorem wpAts_mem {l : List Oper} {fuel : Nat} {listed : Array Bool} {a : Act} {w : World} : ∀ {is : List Nat}, wpAts P l Q C fuel listed a w is → ∀ i ∈ is, wpAt P l Q C fuel listed a w i
  | [], _, i, hi => by cases hi
  | [j], h, i, hi => by simp at hi; subst hi; exact h
  | j :: k :: is, h, i, hi => by
    rcases List.mem_cons.1 hi with rfl | hi
    · exact h.1
    · exact wpAts_mem h.2 i hi
def readyB (ops : Array Oper) (listed : Array Bool) (is : List Nat) : Bool := !is.isEmpty && (Region.ready .any ops listed == is)
/-- Whichever comes up. -/
theorem J_any {l : List Oper} {fuel : Nat} {listed : Array Bool} {a : Act} {w : World} (is : List Nat) (hB : readyB l.toArray listed is = true) (h : wpAts P l Q C fuel listed a w is) : wpAnyH P .any l.toArray (Nrm Q) C (fuel + 1) listed a w := by
  have hB : is ≠ [] ∧ Region.ready .any l.toArray listed = is := by simpa [readyB] using hB
  refine wpAnyH_all hB.2 hB.1 fun j hj => ?_
  obtain ⟨o, hi, h⟩ := wpAts_mem h j hj
  exact wpOp_of_list ((pickN_eq l j).trans hi) (h _ fun a' w'' q1 q2 => ⟨q1, q2⟩)
theorem J_end {l : List Oper} {listed : Array Bool} {a : Act} {w : World} (hB : Region.ready .any l.toArray listed = []) (h : Q .normal a w) : wpAnyH P .any l.toArray (Nrm Q) C 0 listed a w :=
  wpAnyH_done (S := C) (Q := Nrm Q) (P := P) hB (show Nrm Q .normal a w from h) 0
theorem wp_region_J {l : List Oper} {id : Nat} {a : Act} {w : World} (C : World → Prop) (n : Nat) (hm : P.follows .mixedOrders = true) (hn : l.length = n) (h : wpAnyH P .any l.toArray (Nrm Q) C n (Array.replicate n false) a w.drew) : (Code.region id l.toArray true).wp P Q a w :=
  Code.wp_mono Nrm.imp (wp_region_held (S := C) hm (by subst hn; simpa using h))
end
end Go.Proofs.Ytiikhfjdpaofdaa
