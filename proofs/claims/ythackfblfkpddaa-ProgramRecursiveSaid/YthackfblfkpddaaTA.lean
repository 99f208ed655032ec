/- Regions by parts in a wide frame: each operation is run with its operands filled in, in a frame of one slot. -/
import Derived.Test.YthackfblfkpddaaRP
namespace Go.Proofs.Ythackfblfkpddaa
open Go.RowKit
set_option linter.unusedSimpArgs false
set_option linter.unusedVariables false

abbrev tiny : Act := ⟨#[undef], []⟩
abbrev tinyOp (o : Oper) (op' : Op) : Oper := { o with dst := some 0, op := op', guard := none }
theorem wanted_none {o : Oper} (h : o.guard = none) (y : Nat → Option Bool) : Region.wanted o y = true := by
  unfold Region.wanted; rw [h]
section
variable {P : Program} {ops : Array Oper} {Q : Exit → Act → World → Prop} {a : Act} {w : World}
theorem wp_tiny {o : Oper} (op' : Op) {K : Act → World → Prop} (R : Value → World → Prop) (hw : Region.wanted o (yielded ops a.tmps) = true)
    (he : execOp a.eval o = execOp tiny.eval (tinyOp o op'))
    (h : ∀ K' : Act → World → Prop, (∀ u w'', R u w'' → K' ⟨#[u], []⟩ w'') → wpList P #[] (Qn K' (fun _ _ _ => False)) [tinyOp o op'] tiny w)
    (hK : ∀ u w'', R u w'' → K (a.put o.dst u) w'') : wpList P ops (Qn K Q) [o] a w := by
  have h1 := h (fun a' w'' => a'.defers = [] ∧ R (a'.tmps.getD 0 undef) w'') (fun u w'' hr => ⟨rfl, hr⟩)
  unfold wpList at h1 ⊢
  rw [if_pos hw]
  rw [if_pos (wanted_none rfl _)] at h1
  rcases h1 with h1 | ⟨_, a2, w2, h2⟩
  · left
    unfold Oper.wp at h1 ⊢
    rw [← he] at h1
    generalize (execOp a.eval o).run P w = r at h1 ⊢
    cases r with
    | halt x w' =>
      cases x <;> first | exact (h1 : False).elim
    | ok n w' =>
      cases n with
      | value v => exact hK v w' h1.2
      | skip => exact hK undef w' h1.2
      | defer d => exact absurd h1.1 (by simp [Act.put])
      | enter f args =>
        refine Calls.mono h1 fun e w'' he' => ?_
        cases e with
        | returned v => exact hK v w'' he'.2
        | panicked c => exact (he' : False).elim
        | outgrown => obtain ⟨a3, w3, h3⟩ := he'; exact (h3 : False).elim
      | row r args => exact Rows.mono h1 fun v w'' he' => hK v w'' he'.2
      | _ => exact (h1 : False).elim
  · exact (h2 : False).elim
end
theorem eval_same (a : Act) (d : Nat) (v : Value) (h : d < a.tmps.size) : (a.put (some d) v).eval (.tmp d) = v := by
  show (a.tmps.setIfInBounds d v).getD d undef = v
  simp [Array.getD, h]
theorem eval_other {a : Act} {d k : Nat} {v : Value} (h : d ≠ k) : (a.put (some d) v).eval (.tmp k) = a.eval (.tmp k) := by
  show (a.tmps.setIfInBounds d v).getD k undef = a.tmps.getD k undef
  by_cases hk : k < a.tmps.size
  · simp [Array.getD, hk, Array.getElem_setIfInBounds_ne, h]
  · simp [Array.getD, hk]
theorem size_put (a : Act) (d : Option Tmp) (v : Value) : (a.put d v).tmps.size = a.tmps.size := by
  cases d with
  | none => rfl
  | some d => simp [Act.put]
theorem size_putAll {l : List Oper} {a : Act} {vs : Nat → Value} : ∀ (R : List Nat), (putAll l a vs R).tmps.size = a.tmps.size
  | [] => rfl
  | i :: is => by rw [putAll, size_put, size_putAll is]
/-- A slot of an operation of the part holds its value. -/
theorem eval_part {l : List Oper} {a : Act} {vs : Nat → Value} {i d : Nat} (hd : dstOf l i = some d) (hs : d < a.tmps.size) : ∀ (R : List Nat), R.Nodup → i ∈ R → (∀ k ∈ R, k ≠ i → dstOf l k ≠ some d) → (putAll l a vs R).eval (.tmp d) = vs i
  | [], _, h, _ => by cases h
  | k :: is, hn, hi, hdis => by
    rw [List.nodup_cons] at hn
    rw [putAll]
    by_cases hk : k = i
    · subst hk
      rw [hd]
      exact eval_same _ _ _ (by rw [size_putAll]; exact hs)
    · have hi' : i ∈ is := (List.mem_cons.1 hi).resolve_left (fun e => hk e.symm)
      have hne := hdis k (List.mem_cons_self ..) hk
      cases hdk : dstOf l k with
      | none => exact eval_part hd hs is hn.2 hi' (fun j hj h => hdis j (List.mem_cons_of_mem _ hj) h)
      | some e =>
        rw [eval_other (fun h => hne (by rw [hdk, h]))]
        exact eval_part hd hs is hn.2 hi' (fun j hj h => hdis j (List.mem_cons_of_mem _ hj) h)
/-- Another slot holds what it held. -/
theorem eval_base {l : List Oper} {a : Act} {vs : Nat → Value} {k : Nat} : ∀ (R : List Nat), (∀ j ∈ R, dstOf l j ≠ some k) → (putAll l a vs R).eval (.tmp k) = a.eval (.tmp k)
  | [], _ => rfl
  | j :: is, h => by
    rw [putAll]
    have hne := h j (List.mem_cons_self ..)
    cases hdk : dstOf l j with
    | none => exact eval_base is (fun q hq => h q (List.mem_cons_of_mem _ hq))
    | some e =>
      rw [eval_other (fun he => hne (by rw [hdk, he]))]
      exact eval_base is (fun q hq => h q (List.mem_cons_of_mem _ hq))
theorem wanted_at {o : Oper} {ops : Array Oper} {a : Act} {g d : Nat} {b : Bool} {og : Oper} (h : o.guard = some (g, b)) (ho : ops[g]? = some og) (hd : og.dst = some d) (hs : d < a.tmps.size) (hv : a.eval (.tmp d) = .bool b) : Region.wanted o (yielded ops a.tmps) = true := by
  have hy : yielded ops a.tmps g = some b := by
    unfold yielded
    rw [ho]
    simp only [Option.bind_some, hd]
    have : a.tmps[d]? = some (.bool b) := by
      have h2 : a.tmps.getD d undef = .bool b := hv
      simp only [Array.getD, hs, dite_true] at h2
      rw [Array.getElem?_eq_getElem hs]
      simpa using h2
    rw [this]
  unfold Region.wanted
  rw [h]
  simp [hy]
theorem ev_c (a : Act) (v : Value) : a.eval (.const v) = v := rfl
theorem ev_f (a : Act) (f : FuncId) : a.eval (.func f) = .func (.func f) #[] #[] := rfl
section
variable {P : Program} {Q : Exit → Act → World → Prop}
/-- From m to n, the frame behind a name. -/
theorem region_part' {l : List Oper} {a : Act} {w : World} (m n N : Nat) (hB : partB l m n = true) (hN : a.tmps.size = N) (hd : ((part m n).all fun j => match dstOf l j with | some d => decide (d < N) | none => true) = true)
    (Φ : Nat → Value → World → Prop) (hst : ∀ i v w w', Grow w w' → Φ i v w → Φ i v w')
    (step : ∀ i, m ≤ i → i < n → ∀ (vs : Nat → Value) (w' : World) (A : Act), Grow w w' → (∀ j ∈ depsOf l i, m ≤ j → Φ j (vs j) w') →
      (∀ j d, m ≤ j → j < n → dstOf l j = some d → A.eval (.tmp d) = vs j) → (∀ k v, ((part m n).all fun j => decide (dstOf l j ≠ some k)) = true → a.eval (.tmp k) = v → A.eval (.tmp k) = v) → A.tmps.size = N →
      ∀ K : Act → World → Prop, (∀ u w'', Grow w' w'' → Φ i u w'' → K (A.put (dstOf l i) u) w'') → ∃ o, pickN l i = some o ∧ wpList P l.toArray (Qn K Q) [o] A w')
    (fin : ∀ (vs : Nat → Value) (w' : World) (A : Act), Hid (A = putAll l a vs (part m n)) → Grow w w' → (∀ j, m ≤ j → j < n → Φ j (vs j) w') →
      (∀ j d, m ≤ j → j < n → dstOf l j = some d → A.eval (.tmp d) = vs j) → (∀ k v, ((part m n).all fun j => decide (dstOf l j ≠ some k)) = true → a.eval (.tmp k) = v → A.eval (.tmp k) = v) → A.tmps.size = N →
      wpAny P .any l.toArray Q (l.length - n) (firstN l n) A w') : wpAny P .any l.toArray Q (l.length - m) (firstN l m) a w := by
  have hB' := hB
  simp only [partB, Bool.and_eq_true, decide_eq_true_eq] at hB'
  obtain ⟨⟨⟨⟨⟨hmn, hnl⟩, hap⟩, hbk⟩, hsk⟩, hch⟩ := hB'
  have hmem : ∀ i, i ∈ part m n ↔ m ≤ i ∧ i < n := fun i => mem_part (by omega)
  have hdN : ∀ j d, m ≤ j → j < n → dstOf l j = some d → d < a.tmps.size := fun j d h1 h2 h3 => by
    have h4 := List.all_eq_true.1 hd j ((hmem j).2 ⟨h1, h2⟩)
    rw [h3] at h4
    rw [hN]; exact of_decide_eq_true h4
  have hin : ∀ (vs : Nat → Value) j d, m ≤ j → j < n → dstOf l j = some d → (putAll l a vs (part m n)).eval (.tmp d) = vs j := fun vs j d h1 h2 h3 =>
    eval_part h3 (hdN j d h1 h2 h3) _ (part_nodup m n) ((hmem j).2 ⟨h1, h2⟩) (fun k hk hne h4 => by
      have h5 := List.all_eq_true.1 (List.all_eq_true.1 hap k hk) j ((hmem j).2 ⟨h1, h2⟩)
      simp only [Bool.or_eq_true, decide_eq_true_eq] at h5
      rcases h5 with (h5 | h5) | h5
      · exact hne h5
      · rw [h4] at h5; cases h5
      · exact h5 (by rw [h4, h3]))
  have hout : ∀ (vs : Nat → Value) k v, ((part m n).all fun j => decide (dstOf l j ≠ some k)) = true → a.eval (.tmp k) = v → (putAll l a vs (part m n)).eval (.tmp k) = v := fun vs k v h1 h2 => by
    rw [eval_base (part m n) (fun j hj => of_decide_eq_true (List.all_eq_true.1 h1 j hj))]; exact h2
  have hsz : ∀ vs, (putAll l a vs (part m n)).tmps.size = N := fun vs => by rw [size_putAll, hN]
  -- what the slots hold
  have hput : ∀ (R : List Nat), (∀ j ∈ R, m ≤ j ∧ j < n) → putAll l a (fun j => match dstOf l j with | some d => a.eval (.tmp d) | none => undef) R = a := by
    intro R
    induction R with
    | nil => intro _; rfl
    | cons i is ih =>
      intro h
      rw [putAll, ih (fun j hj => h j (List.mem_cons_of_mem _ hj))]
      cases hdi : dstOf l i with
      | none => rfl
      | some d =>
        obtain ⟨h1, h2⟩ := h i (List.mem_cons_self ..)
        have hlt := hdN i d h1 h2 hdi
        show Act.mk (a.tmps.setIfInBounds d (a.tmps.getD d undef)) a.defers = a
        have : a.tmps.setIfInBounds d (a.tmps.getD d undef) = a.tmps := by
          apply Array.ext
          · simp
          · intro k hk1 hk2
            by_cases hkd : d = k
            · subst hkd; simp [hk2]
            · rw [Array.getElem_setIfInBounds_ne _ hkd]
        rw [this]
  exact region_part (P := P) (Q := Q) m n hB _ (hput (part m n) (fun j hj => (hmem j).1 hj)) Φ hst
    (fun i h1 h2 vs w' hg hΦ K hK => step i h1 h2 vs w' _ hg hΦ (hin vs) (hout vs) (hsz vs) K hK)
    (fun vs w' hg hΦ => fin vs w' _ (Lib.hid rfl) hg hΦ (hin vs) (hout vs) (hsz vs))
theorem parts_end' {l : List Oper} {a : Act} {w : World} (n : Nat) (hn : l.length = n) (h : Q .normal a w) : wpAny P .any l.toArray Q (l.length - n) (firstN l n) a w := by
  subst hn; exact parts_end h
theorem hide_act {l : List Oper} {f : Nat} {listed : Array Bool} {a : Act} {w : World} (h : ∀ a0 : Act, Hid (a0 = a) → wpAny P .any l.toArray Q f listed a0 w) : wpAny P .any l.toArray Q f listed a w := h a (Lib.hid rfl)
theorem defers_putAll {l : List Oper} {a : Act} {vs : Nat → Value} : ∀ (R : List Nat), (putAll l a vs R).defers = a.defers
  | [] => rfl
  | i :: is => by
    rw [putAll]
    cases hd : dstOf l i with
    | none => exact defers_putAll is
    | some d => exact defers_putAll is
/-- A frame of a known size, by a function. -/
theorem frame_f {a : Act} {N : Nat} (h : a.tmps.size = N) (hd : a.defers = []) : ∃ f : Nat → Value, a = ⟨((List.range N).map f).toArray, []⟩ ∧ ∀ k, a.eval (.tmp k) = f k := by
  refine ⟨fun k => a.tmps.getD k undef, ?_, fun k => rfl⟩
  obtain ⟨t, d⟩ := a
  simp only at h hd
  subst hd
  congr 1
  apply Array.ext
  · simp [h]
  · intro i h1 h2
    simp [h1]
end
end Go.Proofs.Ythackfblfkpddaa
