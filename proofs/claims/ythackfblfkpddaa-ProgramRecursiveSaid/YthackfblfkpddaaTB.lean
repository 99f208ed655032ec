/- A wide frame kept behind a name: each operation is run in a frame of one slot, and of the frame only the slots that are still read are known. -/
import Derived.Test.YthackfblfkpddaaTA
namespace Go.Proofs.Ythackfblfkpddaa
open Go.RowKit
set_option linter.unusedSimpArgs false
set_option linter.unusedVariables false

section
variable {P : Program} {ops : Array Oper} {Q : Exit → Act → World → Prop} {a A : Act} {w : World}
theorem tiny_step {o : Oper} {rest : List Oper} (op' : Op) (R : Value → World → Prop) (hw : Region.wanted o (yielded ops a.tmps) = true)
    (he : execOp a.eval o = execOp tiny.eval (tinyOp o op'))
    (h : ∀ K' : Act → World → Prop, (∀ u w'', R u w'' → K' ⟨#[u], []⟩ w'') → wpList P #[] (Qn K' (fun _ _ _ => False)) [tinyOp o op'] tiny w)
    (hK : ∀ u w'' A, R u w'' → Hid (A = a.put o.dst u) → wpList P ops Q rest A w'') : wpList P ops Q (o :: rest) a w := by
  have h1 := h (fun a' w'' => a'.defers = [] ∧ R (a'.tmps.getD 0 undef) w'') (fun u w'' hr => ⟨rfl, hr⟩)
  have hK' : ∀ u w'', R u w'' → wpList P ops Q rest (a.put o.dst u) w'' := fun u w'' hr => hK u w'' _ hr (Lib.hid rfl)
  clear hK
  unfold wpList at h1
  rw [wpList, if_pos hw]
  rw [if_pos (wanted_none rfl _)] at h1
  rcases h1 with h1 | ⟨_, a2, w2, h2⟩
  · left
    unfold Oper.wp at h1 ⊢
    rw [← he] at h1
    generalize (execOp a.eval o).run P w = r at h1 ⊢
    cases r with
    | halt x w' =>
      cases x <;> first | exact (h1 : False).elim
    | ok n w' =>
      cases n with
      | value v => exact hK' v w' h1.2
      | skip => exact hK' undef w' h1.2
      | defer d => exact absurd h1.1 (by simp [Act.put])
      | enter f args =>
        refine Calls.mono h1 fun e w'' he' => ?_
        cases e with
        | returned v => exact hK' v w'' he'.2
        | panicked c => exact (he' : False).elim
        | outgrown => obtain ⟨a3, w3, h3⟩ := he'; exact (h3 : False).elim
      | row r args => exact Rows.mono h1 fun v w'' he' => hK' v w'' he'.2
      | _ => exact (h1 : False).elim
  · exact (h2 : False).elim
theorem up_other {d k : Nat} {u v : Value} (hA : Hid (A = a.put (some d) u)) (h : (d == k) = false) (hk : a.eval (.tmp k) = v) : A.eval (.tmp k) = v := by
  rw [hA.out]; exact (eval_other (by intro e; subst e; simp at h)).trans hk
theorem up_same {d N : Nat} {u : Value} (hA : Hid (A = a.put (some d) u)) (hN : a.tmps.size = N) (h : Nat.blt d N = true) : A.eval (.tmp d) = u := by
  rw [hA.out]; exact eval_same _ _ _ (by rw [hN]; exact Nat.blt_eq.mp h)
theorem up_size {d : Option Tmp} {N : Nat} {u : Value} (hA : Hid (A = a.put d u)) (hN : a.tmps.size = N) : A.tmps.size = N := by rw [hA.out, size_put]; exact hN
theorem up_defers {d : Option Tmp} {u : Value} (hA : Hid (A = a.put d u)) (hD : a.defers = []) : A.defers = [] := by
  rw [hA.out]; cases d <;> exact hD
theorem up_none {k : Nat} {u v : Value} (hA : Hid (A = a.put none u)) (hk : a.eval (.tmp k) = v) : A.eval (.tmp k) = v := by
  rw [hA.out]; exact hk
/-- A region that draws: n operations in any order, then a tail of one order; the frame behind a name. -/
theorem region_inv' {l : List Oper} {id : Nat} (n N : Nat) (hm : P.follows .mixedOrders = true) (hB : invB l n = true) (hN : a.tmps.size = N) (hd : ((List.range n).all fun j => match dstOf l j with | some d => decide (d < N) | none => true) = true)
    (Φ : Nat → Value → World → Prop) (hst : ∀ i v w w', Grow w w' → Φ i v w → Φ i v w')
    (step : ∀ i, i < n → ∀ (vs : Nat → Value) (w' : World) (A : Act), Grow w w' → (∀ j ∈ depsOf l i, Φ j (vs j) w') →
      (∀ j d, j < n → dstOf l j = some d → A.eval (.tmp d) = vs j) → (∀ k v, ((List.range n).all fun j => decide (dstOf l j ≠ some k)) = true → a.eval (.tmp k) = v → A.eval (.tmp k) = v) → A.tmps.size = N →
      ∀ K : Act → World → Prop, (∀ u w'', Grow w' w'' → Φ i u w'' → K (A.put (dstOf l i) u) w'') → ∃ o, pickN l i = some o ∧ wpList P l.toArray (Qn K Q) [o] A w')
    (fin : ∀ (vs : Nat → Value) (w' : World) (A : Act), A.defers = a.defers → Grow w w' → (∀ j, j < n → Φ j (vs j) w') →
      (∀ j d, j < n → dstOf l j = some d → A.eval (.tmp d) = vs j) → (∀ k v, ((List.range n).all fun j => decide (dstOf l j ≠ some k)) = true → a.eval (.tmp k) = v → A.eval (.tmp k) = v) → A.tmps.size = N →
      wpList P l.toArray Q (l.drop n) A w') : (Code.region id l.toArray true).wp P Q a w := by
  have hB' := hB
  simp only [invB, Bool.and_eq_true, decide_eq_true_eq] at hB'
  have hap := hB'.1.1.2
  have hmem : ∀ i, i ∈ List.range n ↔ i < n := fun i => List.mem_range
  have hdN : ∀ j d, j < n → dstOf l j = some d → d < a.tmps.size := fun j d h2 h3 => by
    have h4 := List.all_eq_true.1 hd j ((hmem j).2 h2)
    rw [h3] at h4
    rw [hN]; exact of_decide_eq_true h4
  have hin : ∀ (vs : Nat → Value) j d, j < n → dstOf l j = some d → (putAll l a vs (List.range n)).eval (.tmp d) = vs j := fun vs j d h2 h3 =>
    eval_part h3 (hdN j d h2 h3) _ List.nodup_range ((hmem j).2 h2) (fun k hk hne h4 => by
      have h5 := List.all_eq_true.1 (List.all_eq_true.1 hap k hk) j ((hmem j).2 h2)
      simp only [Bool.or_eq_true, decide_eq_true_eq] at h5
      rcases h5 with (h5 | h5) | h5
      · exact hne h5
      · rw [h4] at h5; cases h5
      · exact h5 (by rw [h4, h3]))
  have hout : ∀ (vs : Nat → Value) k v, ((List.range n).all fun j => decide (dstOf l j ≠ some k)) = true → a.eval (.tmp k) = v → (putAll l a vs (List.range n)).eval (.tmp k) = v := fun vs k v h1 h2 => by
    rw [eval_base (List.range n) (fun j hj => of_decide_eq_true (List.all_eq_true.1 h1 j hj))]; exact h2
  have hsz : ∀ vs, (putAll l a vs (List.range n)).tmps.size = N := fun vs => by rw [size_putAll, hN]
  have hput : ∀ (R : List Nat), (∀ j ∈ R, j < n) → putAll l a (fun j => match dstOf l j with | some d => a.eval (.tmp d) | none => undef) R = a := by
    intro R
    induction R with
    | nil => intro _; rfl
    | cons i is ih =>
      intro h
      rw [putAll, ih (fun j hj => h j (List.mem_cons_of_mem _ hj))]
      cases hdi : dstOf l i with
      | none => rfl
      | some d =>
        have hlt := hdN i d (h i (List.mem_cons_self ..)) hdi
        show Act.mk (a.tmps.setIfInBounds d (a.tmps.getD d undef)) a.defers = a
        have : a.tmps.setIfInBounds d (a.tmps.getD d undef) = a.tmps := by
          apply Array.ext
          · simp
          · intro k hk1 hk2
            by_cases hkd : d = k
            · subst hkd; simp [hk2]
            · rw [Array.getElem_setIfInBounds_ne _ hkd]
        rw [this]
  exact wp_region_inv (P := P) (Q := Q) n hm hB _ (hput (List.range n) (fun j hj => (hmem j).1 hj)) Φ hst
    (fun i h2 vs w' hg hΦ K hK => step i h2 vs w' _ hg hΦ (hin vs) (hout vs) (hsz vs) K hK)
    (fun vs w' hg hΦ => fin vs w' _ (defers_putAll _) hg hΦ (hin vs) (hout vs) (hsz vs))
end
end Go.Proofs.Ythackfblfkpddaa
