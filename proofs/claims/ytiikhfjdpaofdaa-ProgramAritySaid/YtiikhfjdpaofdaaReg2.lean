/- Regions that draw their order and write to memory of their own: in the orders that there are; what only reads is taken first. -/
import Derived.Test.YtiikhfjdpaofdaaReg
namespace Go.Proofs.Ytiikhfjdpaofdaa
open Go.RowKit
set_option linter.unusedSimpArgs false
set_option linter.unusedVariables false

section
variable {P : Program} {Q : Exit → Act → World → Prop} {W : World}

theorem plain_skip {o : Oper} (h : plainOp o.op = true) (ρ : Operand → Value) (w w' : World) : (execOp ρ o).run P w ≠ .ok .skip w' := by
  obtain ⟨d, op, t, pos, af, g⟩ := o
  have key : ∀ (s : Sem Value), Sem.run P (do let x ← s; pure (Next.value x)) w ≠ .ok .skip w' := by
    intro s
    simp only [Sem.run_bind]
    cases s.run P w with
    | ok u w2 => simp [Result.andThen]
    | halt x w2 => simp [Result.andThen]
  cases op <;> simp only [plainOp, Bool.false_eq_true] at h <;> simp only [execOp]
  all_goals first
    | exact key _
    | (simp [go_sem]; done)
    | skip
  rename_i c a b
  simp only [Sem.run_bind]
  cases Sem.run P (asBool (ρ c)) w with
  | ok u w2 => simp [Result.andThen, go_sem]
  | halt x w2 => simp [Result.andThen]

theorem H_quiet {l : List Oper} {fuel : Nat} {listed : Array Bool} {a : Act} {w : World} (i : Nat) {o : Oper} (hi : pickN l i = some o) (hB : takeB l.toArray listed i = true)
    (hp : plainOp o.op = true ∨ Region.wanted o (yielded l.toArray a.tmps) = false) (hS : Grow W w)
    (h : wpQuiet P l.toArray (fun w' => ∃ x, w' = ext W x) (fun a' => wpAnyH P .any l.toArray (Nrm Q) (Grow W) fuel (listed.setIfInBounds i true) a' w) [o] a) : wpAnyH P .any l.toArray (Nrm Q) (Grow W) (fuel + 1) listed a w := by
  have hi' := (pickN_eq l i).trans hi
  simp only [takeB, Bool.and_eq_true] at hB
  unfold wpQuiet at h
  by_cases hw : Region.wanted o (yielded l.toArray a.tmps) = true
  · rw [if_pos hw] at h
    obtain ⟨v, h1, h2⟩ := h
    have hpl : plainOp o.op = true := hp.resolve_right (by rw [hw]; decide)
    refine wpAnyH_take hi' hB.1 hB.2.2 hB.2.1 (fun _ _ _ h => (h : False).elim) (.inl ⟨hw, fun w' g => ?_⟩) hS h2
    have q := h1 w' (ext_of_grow g)
    unfold Oper.quietAt at q
    have n1 := plain_enter (P := P) hpl a.eval w'
    have n2 := plain_skip (P := P) hpl a.eval w'
    generalize (execOp a.eval o).run P w' = r at q n1 n2
    cases r with
    | halt y w2 => exact q.elim
    | ok n w2 =>
      cases n with
      | value u => obtain ⟨rfl, rfl⟩ := q; rfl
      | skip => exact absurd rfl (n2 w2)
      | enter f args => exact absurd rfl (n1 f args w2)
      | _ => exact q.elim
  · rw [if_neg hw] at h
    exact wpAnyH_take hi' hB.1 hB.2.2 hB.2.1 (fun _ _ _ h => (h : False).elim) (.inr ⟨by simpa using hw, rfl⟩) hS h
theorem H_one {l : List Oper} {fuel : Nat} {listed : Array Bool} {a : Act} {w : World} (i : Nat) {o : Oper} (hi : pickN l i = some o) (hB : onlyB l.toArray listed i = true)
    (h : ∀ K : Act → World → Prop, (∀ a' w'', Grow W w'' → wpAnyH P .any l.toArray (Nrm Q) (Grow W) fuel (listed.setIfInBounds i true) a' w'' → K a' w'') → wpList P l.toArray (Qn K (Nrm Q)) [o] a w) : wpAnyH P .any l.toArray (Nrm Q) (Grow W) (fuel + 1) listed a w := by
  have hB : Region.ready .any l.toArray listed = [i] := by simpa [onlyB] using hB
  refine wpAnyH_all hB (by simp) fun j hj => ?_
  simp at hj; subst hj
  exact wpOp_of_list ((pickN_eq l j).trans hi) (h _ fun a' w'' q1 q2 => ⟨q1, q2⟩)
def twoB (ops : Array Oper) (listed : Array Bool) (i j : Nat) : Bool := Region.ready .any ops listed == [i, j]
theorem H_two {l : List Oper} {fuel : Nat} {listed : Array Bool} {a : Act} {w : World} (i j : Nat) {o o' : Oper} (hi : pickN l i = some o) (hj : pickN l j = some o') (hB : twoB l.toArray listed i j = true)
    (h : ∀ K : Act → World → Prop, (∀ a' w'', Grow W w'' → wpAnyH P .any l.toArray (Nrm Q) (Grow W) fuel (listed.setIfInBounds i true) a' w'' → K a' w'') → wpList P l.toArray (Qn K (Nrm Q)) [o] a w)
    (h' : ∀ K : Act → World → Prop, (∀ a' w'', Grow W w'' → wpAnyH P .any l.toArray (Nrm Q) (Grow W) fuel (listed.setIfInBounds j true) a' w'' → K a' w'') → wpList P l.toArray (Qn K (Nrm Q)) [o'] a w) :
    wpAnyH P .any l.toArray (Nrm Q) (Grow W) (fuel + 1) listed a w := by
  have hB : Region.ready .any l.toArray listed = [i, j] := by simpa [twoB] using hB
  refine wpAnyH_all hB (by simp) fun k hk => ?_
  simp at hk
  rcases hk with rfl | rfl
  · exact wpOp_of_list ((pickN_eq l k).trans hi) (h _ fun a' w'' q1 q2 => ⟨q1, q2⟩)
  · exact wpOp_of_list ((pickN_eq l k).trans hj) (h' _ fun a' w'' q1 q2 => ⟨q1, q2⟩)
theorem H_end {l : List Oper} {listed : Array Bool} {a : Act} {w : World} (hB : Region.ready .any l.toArray listed = []) (h : Q .normal a w) : wpAnyH P .any l.toArray (Nrm Q) (Grow W) 0 listed a w :=
  wpAnyH_done (S := Grow W) (Q := Nrm Q) (P := P) hB (show Nrm Q .normal a w from h) 0
theorem wp_region_H {l : List Oper} {id : Nat} {a : Act} {w : World} (n : Nat) (hm : P.follows .mixedOrders = true) (hn : l.length = n) (h : wpAnyH P .any l.toArray (Nrm Q) (Grow w) n (Array.replicate n false) a w.drew) : (Code.region id l.toArray true).wp P Q a w :=
  Code.wp_mono Nrm.imp (wp_region_held (S := Grow w) hm (by subst hn; simpa using h))
end
end Go.Proofs.Ytiikhfjdpaofdaa
