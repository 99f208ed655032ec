/- Regions that draw their order and make memory: an operation whose value is the same in every larger world may be taken first; the others as they come up. Regions that draw their order and write to memory of their own: in the orders that there are; what only reads is taken first. Regions that draw their order: in all orders that there are, over any class of worlds; what only reads is taken first. -/
import Derived.Test.YthackfblfkpddaaBase
import Derived.OrdersHeld
import Derived.BigQuiet
namespace Go.Proofs.Ythackfblfkpddaa
open Go.RowKit
set_option linter.unusedSimpArgs false
set_option linter.unusedVariables false

section
variable {P : Program} {ops : Array Oper} {md : Region.Mode} {Q : Exit → Act → World → Prop}

/-- Whatever order is picked from here on, and whatever memory comes meanwhile. -/
def wpAnyG (P : Program) (md : Region.Mode) (ops : Array Oper) (Q : Exit → Act → World → Prop) : Nat → Array Bool → Act → World → Prop
  | 0, listed, a, w => Region.ready md ops listed = [] ∧ ∀ w', Grow w w' → Q .normal a w'
  | fuel + 1, listed, a, w => ∀ w', Grow w w' → (Region.ready md ops listed = [] → Q .normal a w') ∧
      ∀ i ∈ Region.ready md ops listed, wpOp P ops Q i (fun a' w'' => Grow w' w'' ∧ wpAnyG P md ops Q fuel (listed.setIfInBounds i true) a' w'') a w'
theorem wpAnyG.mono : ∀ {fuel : Nat} {listed : Array Bool} {a : Act} {w w1 : World}, Grow w w1 → wpAnyG P md ops Q fuel listed a w → wpAnyG P md ops Q fuel listed a w1
  | 0, _, _, _, _, g, h => ⟨h.1, fun w' g' => h.2 w' (g.trans g')⟩
  | _ + 1, _, _, _, _, g, h => fun w' g' => h w' (g.trans g')
theorem wpAny_of_G : ∀ (fuel : Nat) (listed : Array Bool) (a : Act) (w : World), wpAnyG P md ops Q fuel listed a w → wpAny P md ops Q fuel listed a w
  | 0, _, _, w, h => ⟨h.1, h.2 w (Grow.refl w)⟩
  | fuel + 1, _, _, w, h => ⟨(h w (Grow.refl w)).1, fun i hi => wpOp_mono (fun a' w' h' => wpAny_of_G fuel _ a' w' h'.2) ((h w (Grow.refl w)).2 i hi)⟩

/-- The operation leaves v in every larger world, and makes memory alone. -/
def YieldsG (P : Program) (ops : Array Oper) (o : Oper) (v : Value) (a : Act) (w : World) : Prop :=
  (Region.wanted o (yielded ops a.tmps) = true ∧ ∀ w', Grow w w' → Oper.quietUpon P (Grow w') w' v ((execOp a.eval o).run P w')) ∨
  (Region.wanted o (yielded ops a.tmps) = false ∧ v = undef)
theorem YieldsG.mono {o : Oper} {v : Value} {a : Act} {w w1 : World} (g : Grow w w1) (h : YieldsG P ops o v a w) : YieldsG P ops o v a w1 :=
  h.imp (fun ⟨h1, h2⟩ => ⟨h1, fun w' g' => h2 w' (g.trans g')⟩) id
theorem YieldsG.same {o : Oper} {v : Value} {a a' : Act} {w : World} (h : YieldsG P ops o v a w) (he : execOp a'.eval o = execOp a.eval o)
    (hw : Region.wanted o (yielded ops a'.tmps) = Region.wanted o (yielded ops a.tmps)) : YieldsG P ops o v a' w := by
  unfold YieldsG at *; rw [he, hw]; exact h
theorem YieldsG.held {o : Oper} {v : Value} {a : Act} {w : World} (h : YieldsG P ops o v a w) : YieldsIf P ops (fun _ => False) o v a :=
  h.imp (fun ⟨h1, _⟩ => ⟨h1, fun _ hf => hf.elim⟩) id
theorem YieldsG.wpOp {i : Nat} {o : Oper} {v : Value} {a : Act} {w w' : World} (hi : ops[i]? = some o) (g : Grow w w') (hy : YieldsG P ops o v a w) {K : Act → World → Prop}
    (h : ∀ w'', Grow w' w'' → K (a.put o.dst v) w'') : wpOp P ops Q i K a w' := by
  unfold Go.wpOp
  simp only [hi]
  rcases hy with ⟨hw, hv⟩ | ⟨hw, rfl⟩
  · simp only [hw, if_true]
    refine .inl ?_
    have h3 := hv w' g
    unfold Oper.wp
    generalize (execOp a.eval o).run P w' = r at h3
    cases r with
    | halt x w2 => exact h3.elim
    | ok n w2 =>
      cases n with
      | value u => obtain ⟨rfl, rfl⟩ := h3; exact h _ (Grow.refl _)
      | skip => obtain ⟨rfl, rfl⟩ := h3; exact h _ (Grow.refl _)
      | enter f args => obtain ⟨rfl, hc⟩ := h3; exact hc.mono fun e w3 ⟨he, hg⟩ => by subst he; exact h _ hg
      | _ => exact h3.elim
  · simp only [hw, Bool.false_eq_true, if_false]; exact h _ (Grow.refl _)

/-- What an operation leaves differs from what was in its own slot alone. -/
theorem wpOp_shape {j : Nat} {oj : Oper} (hj : ops[j]? = some oj) {K : Act → World → Prop} {a : Act} {w : World} {Y : Act → Prop} (hY : ∀ u, Y (a.put oj.dst u))
    (hD : ∀ d u, Y ({ a with defers := d :: a.defers }.put oj.dst u)) (h : wpOp P ops Q j K a w) : wpOp P ops Q j (fun a' w' => Y a' ∧ K a' w') a w := by
  unfold wpOp at *
  simp only [hj] at *
  by_cases hw : Region.wanted oj (yielded ops a.tmps) = true
  · simp only [hw, if_true] at h ⊢
    refine h.imp (fun h => ?_) id
    unfold Oper.wp at *
    generalize (execOp a.eval oj).run P w = r at *
    cases r with
    | halt x w2 => cases x <;> exact h
    | ok n w2 =>
      cases n with
      | value u => exact ⟨hY u, h⟩
      | skip => exact ⟨hY _, h⟩
      | defer d => exact ⟨hD d _, h⟩
      | enter f args =>
        refine Calls.mono h fun e w3 he => ?_
        cases e with
        | returned u => exact ⟨hY u, he⟩
        | panicked c => exact he
        | outgrown => exact he
      | row r args => exact Rows.mono h fun u w3 he => ⟨hY u, he⟩
      | _ => exact h
  · simp only [hw] at h ⊢; exact ⟨hY _, h⟩

theorem wpOp_swap {j : Nat} {oi oj : Oper} {v : Value} (hj : ops[j]? = some oj) (hap : oi.apart ops oj = true)
    (hsi : ∀ cs b, oi.op ≠ .select cs b) (hsj : ∀ cs b, oj.op ≠ .select cs b) (hQ : ∀ c a w, Q (.panic c) (a.put oi.dst v) w → Q (.panic c) a w)
    {K : Act → World → Prop} {a : Act} {w w' : World} (hy : YieldsG P ops oi v a w) (h : wpOp P ops Q j K (a.put oi.dst v) w') :
    wpOp P ops Q j (fun a' w'' => YieldsG P ops oi v a' w ∧ K (a'.put oi.dst v) w'') a w' := by
  obtain ⟨_, _, h3⟩ := Oper.apart_spec hap
  have keep : ∀ (a : Act), YieldsG P ops oi v a w → ∀ u, YieldsG P ops oi v (a.put oj.dst u) w := fun a hy u =>
    hy.same (execOp_put oi hsi a oj.dst u h3) (wanted_put oi a oj.dst u h3)
  exact wpOp_mono (fun a' w'' ⟨q1, _, q2⟩ => ⟨q1, q2⟩) (wpOp_shape hj (fun u => keep a hy u) (fun d u => keep { a with defers := d :: a.defers } (hy.same rfl rfl) u) (wpOp_putIf hj hap hsi hsj hQ hy.held h))

theorem G_first {i : Nat} {oi : Oper} {v : Value} (hi : ops[i]? = some oi) (hsel : ∀ (j : Nat) (o : Oper) cs b, ops[j]? = some o → o.op ≠ .select cs b)
    (hQ : ∀ c a w, Q (.panic c) (a.put oi.dst v) w → Q (.panic c) a w) : ∀ (fuel : Nat) (listed : Array Bool) (a : Act) (w : World),
      (∀ j oj, ops[j]? = some oj → j ≠ i → listed.getD j true = false → (∀ e ∈ oj.after, Region.binds md e = true → e.on ≠ i) → oi.apart ops oj = true) →
      i ∈ Region.ready md ops listed → YieldsG P ops oi v a w → wpAnyG P md ops Q fuel (listed.setIfInBounds i true) (a.put oi.dst v) w → wpAnyG P md ops Q (fuel + 1) listed a w := by
  intro fuel
  induction fuel with
  | zero =>
    intro listed a w hfree hr hy H w' g
    refine ⟨(fun h => (by rw [h] at hr; cases hr)), fun j hj => ?_⟩
    by_cases hji : j = i
    · subst hji; exact hy.wpOp hi g fun w'' g' => ⟨g', H.mono (g.trans g')⟩
    · have := ready_mono hj hji; rw [H.1] at this; cases this
  | succ fuel ih =>
    intro listed a w hfree hr hy H w' g
    refine ⟨(fun h => (by rw [h] at hr; cases hr)), fun j hj => ?_⟩
    by_cases hji : j = i
    · subst hji; exact hy.wpOp hi g fun w'' g' => ⟨g', wpAnyG.mono (g.trans g') H⟩
    obtain ⟨hjun, oj, hoj, hall⟩ := mem_ready.1 hj
    have hnot : ∀ e ∈ oj.after, Region.binds md e = true → e.on ≠ i := fun e he hb heq => by
      have q1 := hall e he hb
      have q0 := (mem_ready.1 hr).1
      rw [heq] at q1
      rcases Nat.lt_or_ge i listed.size with h' | h'
      · simp [h'] at q0 q1; rw [q0] at q1; cases q1
      · simp [Array.getElem?_eq_none h'] at q1
    have h2 := wpOp_swap hoj (hfree j oj hoj hji hjun hnot) (fun cs b => hsel i oi cs b hi) (fun cs b => hsel j oj cs b hoj) hQ hy ((H w' g).2 j (ready_mono hj hji))
    refine wpOp_mono (fun a' w'' ⟨hy', g', hk⟩ => ⟨g', ih (listed.setIfInBounds j true) a' w'' (fun k ok hk' hki hun hno => ?_) (ready_mono hr (Ne.symm hji)) (hy'.mono (g.trans g')) ?_⟩) h2
    · refine hfree k ok hk' hki ?_ hno
      by_cases hjk : j = k
      · subst hjk; exact hjun
      · rw [getD_set_ne true hjk] at hun; exact hun
    · rw [Array.setIfInBounds_comm _ _ hji]; exact hk

/-- The post, without any way out but the plain one. -/
def Nrm (Q : Exit → Act → World → Prop) : Exit → Act → World → Prop
  | .normal, a, w => Q .normal a w
  | _, _, _ => False
theorem Nrm.imp {Q : Exit → Act → World → Prop} : ∀ (e : Exit) (a : Act) (w : World), Nrm Q e a w → Q e a w := fun e a w h => by
  cases e <;> first | exact h | exact (h : False).elim
/-- No call. -/
def plainOp : Op → Bool
  | .move _ | .assign _ | .pick .. | .load .. | .binOp .. | .unOp .. | .fieldAddr .. | .field .. | .indexAddr .. | .extract .. | .build .. => true
  | _ => false
theorem plain_enter {o : Oper} (h : plainOp o.op = true) (ρ : Operand → Value) (w : World) (f : FuncId) (args : Array Value) (w' : World) : (execOp ρ o).run P w ≠ .ok (.enter f args) w' := by
  obtain ⟨d, op, t, pos, af, g⟩ := o
  have key : ∀ (s : Sem Value), Sem.run P (do let x ← s; pure (Next.value x)) w ≠ .ok (.enter f args) w' := by
    intro s
    simp only [Sem.run_bind]
    cases s.run P w with
    | ok u w2 => simp [Result.andThen]
    | halt x w2 => simp [Result.andThen]
  cases op <;> simp only [plainOp, Bool.false_eq_true] at h <;> simp only [execOp]
  all_goals first
    | exact key _
    | (simp [go_sem]; done)
    | skip
  rename_i c a b
  simp only [Sem.run_bind]
  cases Sem.run P (asBool (ρ c)) w with
  | ok u w2 => simp [Result.andThen, go_sem]
  | halt x w2 => simp [Result.andThen]

/-- Operation i may be taken first: it may come up, and the others wait for it or are apart from it. -/
def takeB (ops : Array Oper) (listed : Array Bool) (i : Nat) : Bool := Region.noSelect ops && ((Region.ready .any ops listed).contains i && Region.free .any ops listed i)
theorem G_skip {fuel : Nat} {listed : Array Bool} {a : Act} {w : World} (i : Nat) {o : Oper} (hi : ops[i]? = some o) (hB : takeB ops listed i = true)
    (hw : Region.wanted o (yielded ops a.tmps) = false)
    (h : wpAnyG P .any ops (Nrm Q) fuel (listed.setIfInBounds i true) (a.put o.dst undef) w) : wpAnyG P .any ops (Nrm Q) (fuel + 1) listed a w := by
  simp only [takeB, Bool.and_eq_true] at hB
  exact G_first hi (Region.noSelect_spec hB.1) (fun c a w h => (h : False).elim) fuel listed a w (Region.free_spec hi hB.2.2) (by simpa using hB.2.1) (.inr ⟨hw, rfl⟩) h
theorem G_take {fuel : Nat} {listed : Array Bool} {a : Act} {w : World} (i : Nat) {o : Oper} (hi : ops[i]? = some o) (hB : takeB ops listed i = true)
    (hw : Region.wanted o (yielded ops a.tmps) = true) {v : Value}
    (h1 : ∀ x, Oper.quietUpon P (Grow (ext w x)) (ext w x) v ((execOp a.eval o).run P (ext w x))) (h2 : wpAnyG P .any ops (Nrm Q) fuel (listed.setIfInBounds i true) (a.put o.dst v) w) : wpAnyG P .any ops (Nrm Q) (fuel + 1) listed a w := by
  simp only [takeB, Bool.and_eq_true] at hB
  exact G_first hi (Region.noSelect_spec hB.1) (fun c a w h => (h : False).elim) fuel listed a w (Region.free_spec hi hB.2.2) (by simpa using hB.2.1) (.inl ⟨hw, fun w' g => by obtain ⟨x, rfl⟩ := ext_of_grow g; exact h1 x⟩) h2
/-- An operation that is no call. -/
theorem G_op {fuel : Nat} {listed : Array Bool} {a : Act} {w : World} (i : Nat) {o : Oper} (hi : ops[i]? = some o) (hB : takeB ops listed i = true)
    (hw : Region.wanted o (yielded ops a.tmps) = true) (hp : plainOp o.op = true)
    (h : ∀ K : Act → Prop, (∀ a', wpAnyG P .any ops (Nrm Q) fuel (listed.setIfInBounds i true) a' w → K a') → o.quiet P a (fun w' => ∃ x, w' = ext w x) K) : wpAnyG P .any ops (Nrm Q) (fuel + 1) listed a w := by
  obtain ⟨v, h1, h2⟩ := h _ fun _ q => q
  refine G_take i hi hB hw (v := v) (fun x => ?_) h2
  have q := h1 (ext w x) ⟨x, rfl⟩
  unfold Oper.quietAt at q
  have ne := plain_enter (P := P) hp a.eval (ext w x)
  generalize (execOp a.eval o).run P (ext w x) = r at q ne
  cases r with
  | halt y w2 => exact q
  | ok n w2 =>
    cases n with
    | enter f args => exact absurd rfl (ne f args w2)
    | _ => exact q
theorem G_q {fuel : Nat} {listed : Array Bool} {a : Act} {w : World} (i : Nat) {o : Oper} (hi : ops[i]? = some o) (hB : takeB ops listed i = true)
    (hp : plainOp o.op = true ∨ Region.wanted o (yielded ops a.tmps) = false)
    (h : wpQuiet P ops (fun w' => ∃ x, w' = ext w x) (fun a' => wpAnyG P .any ops (Nrm Q) fuel (listed.setIfInBounds i true) a' w) [o] a) : wpAnyG P .any ops (Nrm Q) (fuel + 1) listed a w := by
  unfold wpQuiet at h
  by_cases hw : Region.wanted o (yielded ops a.tmps) = true
  · rw [if_pos hw] at h
    exact G_op i hi hB hw (hp.resolve_right (by rw [hw]; decide)) fun K hK => Oper.quiet_mono (fun a' q => hK a' q) h
  · rw [if_neg hw] at h
    exact G_skip i hi hB (by simpa using hw) h
/-- A call whose result is the same in every larger world. -/
theorem G_call {fuel : Nat} {listed : Array Bool} {a : Act} {w : World} (i : Nat) {o : Oper} (hi : ops[i]? = some o) (hB : takeB ops listed i = true)
    (hw : Region.wanted o (yielded ops a.tmps) = true) {f : FuncId} {args : Array Value} (hr : ∀ w, (execOp a.eval o).run P w = .ok (.enter f args) w) {v : Value}
    (hc : ∀ x, Calls P f args (ext w x) (Ret (ext w x) v)) (h2 : wpAnyG P .any ops (Nrm Q) fuel (listed.setIfInBounds i true) (a.put o.dst v) w) : wpAnyG P .any ops (Nrm Q) (fuel + 1) listed a w :=
  G_take i hi hB hw (v := v) (fun x => by rw [hr]; exact ⟨rfl, hc x⟩) h2
/-- The post of one operation. -/
def Qn (K : Act → World → Prop) (Q : Exit → Act → World → Prop) : Exit → Act → World → Prop
  | .normal, a, w => K a w
  | e, a, w => Q e a w
theorem wpOp_of_list {i : Nat} {o : Oper} (hi : ops[i]? = some o) {K : Act → World → Prop} {a : Act} {w : World} (h : wpList P ops (Qn K Q) [o] a w) : wpOp P ops Q i K a w := by
  unfold wpOp
  simp only [hi]
  unfold wpList at h
  by_cases hw : Region.wanted o (yielded ops a.tmps) = true
  · simp only [hw, if_true] at h ⊢
    rcases h with h | ⟨h1, a2, w2, h2⟩
    · refine .inl ?_
      unfold Oper.wp at *
      generalize (execOp a.eval o).run P w = r at *
      cases r with
      | halt x w2 => cases x <;> exact h
      | ok n w2 =>
        cases n with
        | enter f args =>
          refine Calls.mono h fun e w3 he => ?_
          cases e with
          | returned u => exact he
          | panicked c => exact he
          | outgrown => obtain ⟨a3, w3, q⟩ := he; exact ⟨a3, w3, q⟩
        | row r args => exact Rows.mono h fun u w3 he => he
        | _ => exact h
    · exact .inr ⟨h1, a2, w2, h2⟩
  · simp only [hw] at h ⊢; exact h
/-- Operation i is the only one that may come up. -/
def onlyB (ops : Array Oper) (listed : Array Bool) (i : Nat) : Bool := Region.ready .any ops listed == [i]
theorem G_only {fuel : Nat} {listed : Array Bool} {a : Act} {w : World} (i : Nat) {o : Oper} (hi : ops[i]? = some o) (hB : onlyB ops listed i = true)
    (h : ∀ x, ∀ K : Act → World → Prop, (∀ a' w'', Grow (ext w x) w'' → wpAnyG P .any ops (Nrm Q) fuel (listed.setIfInBounds i true) a' w'' → K a' w'') → wpList P ops (Qn K (Nrm Q)) [o] a (ext w x)) : wpAnyG P .any ops (Nrm Q) (fuel + 1) listed a w := by
  have hB : Region.ready .any ops listed = [i] := by simpa [onlyB] using hB
  intro w' g
  obtain ⟨x, rfl⟩ := ext_of_grow g
  rw [hB]
  exact ⟨(fun h => (by cases h)), fun j hj => (by simp at hj; subst hj; exact wpOp_of_list hi (h x _ fun a' w'' q1 q2 => ⟨q1, q2⟩))⟩
theorem G_end {listed : Array Bool} {a : Act} {w : World} (hB : Region.ready .any ops listed = []) (h : ∀ x, Q .normal a (ext w x)) : wpAnyG P .any ops (Nrm Q) 0 listed a w :=
  ⟨hB, fun w' g => by obtain ⟨x, rfl⟩ := ext_of_grow g; exact h x⟩
def pickN : List Oper → Nat → Option Oper
  | [], _ => none
  | o :: _, 0 => some o
  | _ :: l, n + 1 => pickN l n
theorem pickN_eq : ∀ (l : List Oper) (i : Nat), l.toArray[i]? = pickN l i
  | [], _ => by simp [pickN]
  | o :: l, 0 => by simp [pickN]
  | o :: l, n + 1 => by have := pickN_eq l n; simp at this; simp [pickN, this]
theorem G_quiet {l : List Oper} {fuel : Nat} {listed : Array Bool} {a : Act} {w : World} (i : Nat) {o : Oper} (hi : pickN l i = some o) (hB : takeB l.toArray listed i = true)
    (hp : plainOp o.op = true ∨ Region.wanted o (yielded l.toArray a.tmps) = false)
    (h : wpQuiet P l.toArray (fun w' => ∃ x, w' = ext w x) (fun a' => wpAnyG P .any l.toArray (Nrm Q) fuel (listed.setIfInBounds i true) a' w) [o] a) : wpAnyG P .any l.toArray (Nrm Q) (fuel + 1) listed a w :=
  G_q i ((pickN_eq l i).trans hi) hB hp h
theorem G_forced {l : List Oper} {fuel : Nat} {listed : Array Bool} {a : Act} {w : World} (i : Nat) {o : Oper} (hi : pickN l i = some o) (hB : onlyB l.toArray listed i = true)
    (h : ∀ x, ∀ K : Act → World → Prop, (∀ a' w'', Grow (ext w x) w'' → wpAnyG P .any l.toArray (Nrm Q) fuel (listed.setIfInBounds i true) a' w'' → K a' w'') → wpList P l.toArray (Qn K (Nrm Q)) [o] a (ext w x)) : wpAnyG P .any l.toArray (Nrm Q) (fuel + 1) listed a w :=
  G_only i ((pickN_eq l i).trans hi) hB h
theorem wp_region_G {id : Nat} {a : Act} {w : World} (n : Nat) (hm : P.follows .mixedOrders = true) (hn : ops.size = n) (h : wpAnyG P .any ops (Nrm Q) n (Array.replicate n false) a w) : (Code.region id ops true).wp P Q a w :=
  Code.wp_mono Nrm.imp (wp_region_any hm (wpAny_of_G _ _ _ _ (by subst hn; exact h.mono (Grow.refl w).drew)))
end
section
variable {P : Program} {Q : Exit → Act → World → Prop} {W : World}

theorem plain_skip {o : Oper} (h : plainOp o.op = true) (ρ : Operand → Value) (w w' : World) : (execOp ρ o).run P w ≠ .ok .skip w' := by
  obtain ⟨d, op, t, pos, af, g⟩ := o
  have key : ∀ (s : Sem Value), Sem.run P (do let x ← s; pure (Next.value x)) w ≠ .ok .skip w' := by
    intro s
    simp only [Sem.run_bind]
    cases s.run P w with
    | ok u w2 => simp [Result.andThen]
    | halt x w2 => simp [Result.andThen]
  cases op <;> simp only [plainOp, Bool.false_eq_true] at h <;> simp only [execOp]
  all_goals first
    | exact key _
    | (simp [go_sem]; done)
    | skip
  rename_i c a b
  simp only [Sem.run_bind]
  cases Sem.run P (asBool (ρ c)) w with
  | ok u w2 => simp [Result.andThen, go_sem]
  | halt x w2 => simp [Result.andThen]

theorem H_quiet {l : List Oper} {fuel : Nat} {listed : Array Bool} {a : Act} {w : World} (i : Nat) {o : Oper} (hi : pickN l i = some o) (hB : takeB l.toArray listed i = true)
    (hp : plainOp o.op = true ∨ Region.wanted o (yielded l.toArray a.tmps) = false) (hS : Grow W w)
    (h : wpQuiet P l.toArray (fun w' => ∃ x, w' = ext W x) (fun a' => wpAnyH P .any l.toArray (Nrm Q) (Grow W) fuel (listed.setIfInBounds i true) a' w) [o] a) : wpAnyH P .any l.toArray (Nrm Q) (Grow W) (fuel + 1) listed a w := by
  have hi' := (pickN_eq l i).trans hi
  simp only [takeB, Bool.and_eq_true] at hB
  unfold wpQuiet at h
  by_cases hw : Region.wanted o (yielded l.toArray a.tmps) = true
  · rw [if_pos hw] at h
    obtain ⟨v, h1, h2⟩ := h
    have hpl : plainOp o.op = true := hp.resolve_right (by rw [hw]; decide)
    refine wpAnyH_take hi' hB.1 hB.2.2 hB.2.1 (fun _ _ _ h => (h : False).elim) (.inl ⟨hw, fun w' g => ?_⟩) hS h2
    have q := h1 w' (ext_of_grow g)
    unfold Oper.quietAt at q
    have n1 := plain_enter (P := P) hpl a.eval w'
    have n2 := plain_skip (P := P) hpl a.eval w'
    generalize (execOp a.eval o).run P w' = r at q n1 n2
    cases r with
    | halt y w2 => exact q.elim
    | ok n w2 =>
      cases n with
      | value u => obtain ⟨rfl, rfl⟩ := q; rfl
      | skip => exact absurd rfl (n2 w2)
      | enter f args => exact absurd rfl (n1 f args w2)
      | _ => exact q.elim
  · rw [if_neg hw] at h
    exact wpAnyH_take hi' hB.1 hB.2.2 hB.2.1 (fun _ _ _ h => (h : False).elim) (.inr ⟨by simpa using hw, rfl⟩) hS h
theorem H_one {l : List Oper} {fuel : Nat} {listed : Array Bool} {a : Act} {w : World} (i : Nat) {o : Oper} (hi : pickN l i = some o) (hB : onlyB l.toArray listed i = true)
    (h : ∀ K : Act → World → Prop, (∀ a' w'', Grow W w'' → wpAnyH P .any l.toArray (Nrm Q) (Grow W) fuel (listed.setIfInBounds i true) a' w'' → K a' w'') → wpList P l.toArray (Qn K (Nrm Q)) [o] a w) : wpAnyH P .any l.toArray (Nrm Q) (Grow W) (fuel + 1) listed a w := by
  have hB : Region.ready .any l.toArray listed = [i] := by simpa [onlyB] using hB
  refine wpAnyH_all hB (by simp) fun j hj => ?_
  simp at hj; subst hj
  exact wpOp_of_list ((pickN_eq l j).trans hi) (h _ fun a' w'' q1 q2 => ⟨q1, q2⟩)
def twoB (ops : Array Oper) (listed : Array Bool) (i j : Nat) : Bool := Region.ready .any ops listed == [i, j]
theorem H_two {l : List Oper} {fuel : Nat} {listed : Array Bool} {a : Act} {w : World} (i j : Nat) {o o' : Oper} (hi : pickN l i = some o) (hj : pickN l j = some o') (hB : twoB l.toArray listed i j = true)
    (h : ∀ K : Act → World → Prop, (∀ a' w'', Grow W w'' → wpAnyH P .any l.toArray (Nrm Q) (Grow W) fuel (listed.setIfInBounds i true) a' w'' → K a' w'') → wpList P l.toArray (Qn K (Nrm Q)) [o] a w)
    (h' : ∀ K : Act → World → Prop, (∀ a' w'', Grow W w'' → wpAnyH P .any l.toArray (Nrm Q) (Grow W) fuel (listed.setIfInBounds j true) a' w'' → K a' w'') → wpList P l.toArray (Qn K (Nrm Q)) [o'] a w) :
    wpAnyH P .any l.toArray (Nrm Q) (Grow W) (fuel + 1) listed a w := by
  have hB : Region.ready .any l.toArray listed = [i, j] := by simpa [twoB] using hB
  refine wpAnyH_all hB (by simp) fun k hk => ?_
  simp at hk
  rcases hk with rfl | rfl
  · exact wpOp_of_list ((pickN_eq l k).trans hi) (h _ fun a' w'' q1 q2 => ⟨q1, q2⟩)
  · exact wpOp_of_list ((pickN_eq l k).trans hj) (h' _ fun a' w'' q1 q2 => ⟨q1, q2⟩)
theorem H_end {l : List Oper} {listed : Array Bool} {a : Act} {w : World} (hB : Region.ready .any l.toArray listed = []) (h : Q .normal a w) : wpAnyH P .any l.toArray (Nrm Q) (Grow W) 0 listed a w :=
  wpAnyH_done (S := Grow W) (Q := Nrm Q) (P := P) hB (show Nrm Q .normal a w from h) 0
theorem wp_region_H {l : List Oper} {id : Nat} {a : Act} {w : World} (n : Nat) (hm : P.follows .mixedOrders = true) (hn : l.length = n) (h : wpAnyH P .any l.toArray (Nrm Q) (Grow w) n (Array.replicate n false) a w.drew) : (Code.region id l.toArray true).wp P Q a w :=
  Code.wp_mono Nrm.imp (wp_region_held (S := Grow w) hm (by subst hn; simpa using h))
end
section
variable {P : Program} {Q : Exit → Act → World → Prop} {C : World → Prop}

theorem J_quiet {l : List Oper} {fuel : Nat} {listed : Array Bool} {a : Act} {w : World} (i : Nat) {o : Oper} (hi : pickN l i = some o) (hB : takeB l.toArray listed i = true)
    (hp : plainOp o.op = true ∨ Region.wanted o (yielded l.toArray a.tmps) = false) (hS : C w)
    (h : wpQuiet P l.toArray C (fun a' => wpAnyH P .any l.toArray (Nrm Q) C fuel (listed.setIfInBounds i true) a' w) [o] a) : wpAnyH P .any l.toArray (Nrm Q) C (fuel + 1) listed a w := by
  have hi' := (pickN_eq l i).trans hi
  simp only [takeB, Bool.and_eq_true] at hB
  unfold wpQuiet at h
  by_cases hw : Region.wanted o (yielded l.toArray a.tmps) = true
  · rw [if_pos hw] at h
    obtain ⟨v, h1, h2⟩ := h
    have hpl : plainOp o.op = true := hp.resolve_right (by rw [hw]; decide)
    refine wpAnyH_take hi' hB.1 hB.2.2 hB.2.1 (fun _ _ _ h => (h : False).elim) (.inl ⟨hw, fun w' g => ?_⟩) hS h2
    have q := h1 w' g
    unfold Oper.quietAt at q
    have n1 := plain_enter (P := P) hpl a.eval w'
    have n2 := plain_skip (P := P) hpl a.eval w'
    generalize (execOp a.eval o).run P w' = r at q n1 n2
    cases r with
    | halt y w2 => exact q.elim
    | ok n w2 =>
      cases n with
      | value u => obtain ⟨rfl, rfl⟩ := q; rfl
      | skip => exact absurd rfl (n2 w2)
      | enter f args => exact absurd rfl (n1 f args w2)
      | _ => exact q.elim
  · rw [if_neg hw] at h
    exact wpAnyH_take hi' hB.1 hB.2.2 hB.2.1 (fun _ _ _ h => (h : False).elim) (.inr ⟨by simpa using hw, rfl⟩) hS h
/-- Of operation i: what is asked where it comes up. -/
def wpAt (P : Program) (l : List Oper) (Q : Exit → Act → World → Prop) (C : World → Prop) (fuel : Nat) (listed : Array Bool) (a : Act) (w : World) (i : Nat) : Prop :=
  ∃ o, pickN l i = some o ∧ ∀ K : Act → World → Prop, (∀ a' w'', C w'' → wpAnyH P .any l.toArray (Nrm Q) C fuel (listed.setIfInBounds i true) a' w'' → K a' w'') → wpList P l.toArray (Qn K (Nrm Q)) [o] a w
def wpAts (P : Program) (l : List Oper) (Q : Exit → Act → World → Prop) (C : World → Prop) (fuel : Nat) (listed : Array Bool) (a : Act) (w : World) : List Nat → Prop
  | [] => True
  | [i] => wpAt P l Q C fuel listed a w i
  | i :: is => wpAt P l Q C fuel listed a w i ∧ wpAts P l Q C fuel listed a w is
theorem wpAts_mem {l : List Oper} {fuel : Nat} {listed : Array Bool} {a : Act} {w : World} : ∀ {is : List Nat}, wpAts P l Q C fuel listed a w is → ∀ i ∈ is, wpAt P l Q C fuel listed a w i
  | [], _, i, hi => by cases hi
  | [j], h, i, hi => by simp at hi; subst hi; exact h
  | j :: k :: is, h, i, hi => by
    rcases List.mem_cons.1 hi with rfl | hi
    · exact h.1
    · exact wpAts_mem h.2 i hi
def readyB (ops : Array Oper) (listed : Array Bool) (is : List Nat) : Bool := !is.isEmpty && (Region.ready .any ops listed == is)
/-- Whichever comes up. -/
theorem J_any {l : List Oper} {fuel : Nat} {listed : Array Bool} {a : Act} {w : World} (is : List Nat) (hB : readyB l.toArray listed is = true) (h : wpAts P l Q C fuel listed a w is) : wpAnyH P .any l.toArray (Nrm Q) C (fuel + 1) listed a w := by
  have hB : is ≠ [] ∧ Region.ready .any l.toArray listed = is := by simpa [readyB] using hB
  refine wpAnyH_all hB.2 hB.1 fun j hj => ?_
  obtain ⟨o, hi, h⟩ := wpAts_mem h j hj
  exact wpOp_of_list ((pickN_eq l j).trans hi) (h _ fun a' w'' q1 q2 => ⟨q1, q2⟩)
theorem J_end {l : List Oper} {listed : Array Bool} {a : Act} {w : World} (hB : Region.ready .any l.toArray listed = []) (h : Q .normal a w) : wpAnyH P .any l.toArray (Nrm Q) C 0 listed a w :=
  wpAnyH_done (S := C) (Q := Nrm Q) (P := P) hB (show Nrm Q .normal a w from h) 0
theorem wp_region_J {l : List Oper} {id : Nat} {a : Act} {w : World} (C : World → Prop) (n : Nat) (hm : P.follows .mixedOrders = true) (hn : l.length = n) (h : wpAnyH P .any l.toArray (Nrm Q) C n (Array.replicate n false) a w.drew) : (Code.region id l.toArray true).wp P Q a w :=
  Code.wp_mono Nrm.imp (wp_region_held (S := C) hm (by subst hn; simpa using h))
end
end Go.Proofs.Ythackfblfkpddaa
