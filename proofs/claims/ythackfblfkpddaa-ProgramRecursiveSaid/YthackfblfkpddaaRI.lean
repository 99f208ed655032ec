/- Regions that draw their order and make memory, by what holds of each operation's value: one case for each operation, whatever the order; then a tail that has one order. -/
import Derived.Test.YthackfblfkpddaaReg
import Derived.StillTail
namespace Go.Proofs.Ythackfblfkpddaa
open Go.RowKit
set_option linter.unusedSimpArgs false
set_option linter.unusedVariables false

def dstOf (l : List Oper) (i : Nat) : Option Tmp := (pickN l i).bind (·.dst)
def depsOf (l : List Oper) (i : Nat) : List Nat := ((pickN l i).map fun o => (o.after.toList.filter fun e => Region.binds .any e).map (·.on)).getD []
/-- The act in which each operation of the list has left its value. -/
def putAll (l : List Oper) (a : Act) (vs : Nat → Value) : List Nat → Act
  | [] => a
  | i :: is => (putAll l a vs is).put (dstOf l i) (vs i)
def apartB (l : List Oper) (n : Nat) : Bool := (List.range n).all fun i => (List.range n).all fun k => decide (i = k) || (dstOf l i).isNone || decide (dstOf l i ≠ dstOf l k)
def backB (l : List Oper) (n : Nat) : Bool := (List.range n).all fun i => (depsOf l i).all fun j => decide (j < i)
def invB (l : List Oper) (n : Nat) : Bool := decide (n < l.length) && Region.sinkB .any l.toArray n && Region.chainB .any l.toArray n && apartB l n && backB l n && Region.seqB .any l.toArray (l.length - n) n ((Array.replicate n true) ++ (Array.replicate (l.length - n) false))
theorem Act.put_again (a : Act) (d : Option Tmp) (v u : Value) : (a.put d v).put d u = a.put d u := by
  cases d with
  | none => rfl
  | some d => simp [Act.put]
theorem Act.put_swap (a : Act) {d d' : Option Tmp} (v u : Value) (h : d.isNone = true ∨ d ≠ d') : (a.put d v).put d' u = (a.put d' u).put d v := by
  cases d with
  | none => rfl
  | some d =>
    cases d' with
    | none => rfl
    | some d' =>
      have hd : d ≠ d' := fun e => by rcases h with h | h; cases h; exact h (by rw [e])
      simp only [Act.put]
      congr 1
      exact Array.setIfInBounds_comm _ _ hd
theorem putAll_same {l : List Oper} {a : Act} {vs vs' : Nat → Value} : ∀ (R : List Nat), (∀ j ∈ R, vs j = vs' j) → putAll l a vs R = putAll l a vs' R
  | [], _ => rfl
  | i :: is, h => by rw [putAll, putAll, putAll_same is (fun j hj => h j (List.mem_cons_of_mem _ hj)), h i (List.mem_cons_self ..)]
theorem putAll_set {l : List Oper} {a : Act} {vs : Nat → Value} {i : Nat} {u : Value} : ∀ (R : List Nat), R.Nodup → i ∈ R → (∀ k ∈ R, k ≠ i → (dstOf l k).isNone = true ∨ dstOf l k ≠ dstOf l i) →
    (putAll l a vs R).put (dstOf l i) u = putAll l a (fun j => if j = i then u else vs j) R
  | [], _, h, _ => by cases h
  | k :: is, hn, hi, hd => by
    rw [List.nodup_cons] at hn
    rw [putAll, putAll]
    by_cases hk : k = i
    · subst hk
      rw [Act.put_again, if_pos rfl, putAll_same is (vs := vs) (vs' := fun j => if j = k then u else vs j) (fun j hj => by show vs j = if j = k then u else vs j; rw [if_neg (fun e => hn.1 (by rw [← e]; exact hj))])]
    · have hi' : i ∈ is := (List.mem_cons.1 hi).resolve_left (fun e => hk e.symm)
      rw [Act.put_swap _ _ _ (hd k (List.mem_cons_self ..) hk), putAll_set is hn.2 hi' (fun j hj hne => hd j (List.mem_cons_of_mem _ hj) hne), if_neg hk]
theorem getD_of {listed : Array Bool} {i : Nat} (hi : i < listed.size) : listed.getD i true = listed.getD i false := by
  simp [hi]
section
variable {P : Program} {Q : Exit → Act → World → Prop}
/-- How many operations of the head have not come up. -/
def leftN (n : Nat) (listed : Array Bool) : Nat := ((List.range n).filter fun j => !listed.getD j true).length
theorem leftN_set {n i : Nat} {listed : Array Bool} (hi : i < n) (hs : i < listed.size) (h : listed.getD i true = false) : leftN n (listed.setIfInBounds i true) + 1 = leftN n listed := by
  unfold leftN
  have key : ∀ (R : List Nat), R.Nodup → i ∈ R → (R.filter fun j => !(listed.setIfInBounds i true).getD j true).length + 1 = (R.filter fun j => !listed.getD j true).length := by
    intro R
    induction R with
    | nil => intro _ h; cases h
    | cons k is ih =>
      intro hn hm
      rw [List.nodup_cons] at hn
      by_cases hk : k = i
      · subst hk
        have e1 : (listed.setIfInBounds k true).getD k true = true := by
          simp [hs]
        have e2 : (is.filter fun j => !(listed.setIfInBounds k true).getD j true) = is.filter fun j => !listed.getD j true := by
          apply List.filter_congr
          intro j hj
          rw [getD_set_ne true (fun e => hn.1 (by rw [e]; exact hj))]
        simp only [List.filter_cons, e1, h, Bool.not_true, Bool.not_false, if_true, Bool.false_eq_true, if_false, List.length_cons, e2]
      · have hm' : i ∈ is := (List.mem_cons.1 hm).resolve_left (fun e => hk e.symm)
        have := ih hn.2 hm'
        rw [List.filter_cons, List.filter_cons, getD_set_ne true (fun e => hk e.symm)]
        split
        · simp only [List.length_cons]; omega
        · exact this
  exact key _ List.nodup_range (List.mem_range.2 hi)
theorem region_inv_go {l : List Oper} {a : Act} {w : World} (n : Nat) (hB : invB l n = true) (Φ : Nat → Value → World → Prop) (hst : ∀ i v w w', Grow w w' → Φ i v w → Φ i v w')
    (step : ∀ i, i < n → ∀ vs w', Grow w w' → (∀ j ∈ depsOf l i, Φ j (vs j) w') → ∀ K : Act → World → Prop, (∀ u w'', Grow w' w'' → Φ i u w'' → K ((putAll l a vs (List.range n)).put (dstOf l i) u) w'') → ∃ o, pickN l i = some o ∧ wpList P l.toArray (Qn K Q) [o] (putAll l a vs (List.range n)) w')
    (fin : ∀ vs w', Grow w w' → (∀ j, j < n → Φ j (vs j) w') → wpList P l.toArray Q (l.drop n) (putAll l a vs (List.range n)) w') :
    ∀ (f : Nat) (listed : Array Bool) (vs : Nat → Value) (w' : World), HeadInv .any l.toArray n listed → leftN n listed = f → Grow w w' → (∀ j, j < n → listed.getD j false = true → Φ j (vs j) w') →
      wpAny P .any l.toArray Q (f + (l.length - n)) listed (putAll l a vs (List.range n)) w' := by
  simp only [invB, Bool.and_eq_true, decide_eq_true_eq] at hB
  obtain ⟨⟨⟨⟨⟨hn, hs⟩, hc⟩, hap⟩, hbk⟩, hseq⟩ := hB
  have hn' : n < l.toArray.size := by simpa using hn
  intro f
  induction f with
  | zero =>
    intro listed vs w' inv hleft hg hΦ
    have hall : ∀ j, j < n → listed.getD j false = true := fun j hj => by
      have hjs : j < listed.size := by rw [inv.size]; omega
      cases h : listed.getD j false with
      | true => rfl
      | false =>
        exfalso
        have : j ∈ (List.range n).filter fun j => !listed.getD j true := List.mem_filter.2 ⟨List.mem_range.2 hj, by rw [getD_of hjs, h]; rfl⟩
        rw [List.length_eq_zero_iff.1 hleft] at this
        cases this
    have hl : listed = (Array.replicate n true) ++ (Array.replicate (l.length - n) false) := by
      apply Array.ext
      · rw [inv.size]; simp; omega
      · intro i h1 h2
        by_cases hi : i < n
        · have := hall i hi
          rw [Array.getElem_append_left (by simpa using hi)]
          simpa [h1] using this
        · have := inv.tail i (by omega) (by rw [← inv.size]; exact h1)
          rw [Array.getElem_append_right (by simpa using hi)]
          simpa [h1] using this
    rw [Nat.zero_add]
    have := wpAny_of_seq (md := .any) (P := P) (Q' := Q) (l.drop n) n listed (putAll l a vs (List.range n)) w' (fun j => by simp [List.getElem?_drop]) (by rw [List.length_drop, hl]; exact hseq) (fin vs w' hg (fun j hj => hΦ j hj (hall j hj)))
    rwa [List.length_drop] at this
  | succ f ih =>
    intro listed vs w' inv hleft hg hΦ
    -- some operation of the head has not come up: the first such
    have hex : ∃ i, i < n ∧ listed.getD i true = false := by
      have hpos : 0 < ((List.range n).filter fun j => !listed.getD j true).length := by unfold leftN at hleft; omega
      obtain ⟨j, hj⟩ := List.exists_mem_of_length_pos hpos
      obtain ⟨h1, h2⟩ := List.mem_filter.1 hj
      exact ⟨j, List.mem_range.1 h1, by simpa using h2⟩
    obtain ⟨i0, hi0, hu0⟩ := hex
    rw [show f + 1 + (l.length - n) = (f + (l.length - n)) + 1 by omega]
    refine ⟨fun h0 => ?_, fun i hi => ?_⟩
    · exfalso
      have key : ∀ (m i : Nat), i ≤ m → i < n → listed.getD i true = false → ∃ k, k ∈ Region.ready .any l.toArray listed := by
        intro m
        induction m with
        | zero =>
          intro i him hin hu
          refine ⟨i, mem_ready.2 ⟨hu, l.toArray[i]'(by omega), by simp [show i < l.length by simpa using (show i < l.toArray.size by omega)], fun e he hb => ?_⟩⟩
          have hb1 := List.all_eq_true.1 hbk i (List.mem_range.2 hin)
          have hmem : e.on ∈ depsOf l i := by
            unfold depsOf
            rw [← pickN_eq]
            have hlt : i < l.length := by simpa using (show i < l.toArray.size by omega)
            simp only [List.getElem?_toArray, List.getElem?_eq_getElem hlt, Option.map_some, Option.getD_some]
            exact List.mem_map.2 ⟨e, List.mem_filter.2 ⟨by simpa using he, hb⟩, rfl⟩
          have := of_decide_eq_true (List.all_eq_true.1 hb1 _ hmem)
          omega
        | succ m ihm =>
          intro i him hin hu
          by_cases hd : ∀ j ∈ depsOf l i, listed.getD j false = true
          · refine ⟨i, mem_ready.2 ⟨hu, l.toArray[i]'(by omega), by simp [show i < l.length by simpa using (show i < l.toArray.size by omega)], fun e he hb => ?_⟩⟩
            apply hd
            unfold depsOf
            rw [← pickN_eq]
            have hlt : i < l.length := by simpa using (show i < l.toArray.size by omega)
            simp only [List.getElem?_toArray, List.getElem?_eq_getElem hlt, Option.map_some, Option.getD_some]
            exact List.mem_map.2 ⟨e, List.mem_filter.2 ⟨by simpa using he, hb⟩, rfl⟩
          · simp only [Classical.not_forall] at hd
            obtain ⟨j, hj, hju⟩ := hd
            have hb1 := List.all_eq_true.1 hbk i (List.mem_range.2 hin)
            have hji := of_decide_eq_true (List.all_eq_true.1 hb1 _ hj)
            have hjs : j < listed.size := by rw [inv.size]; omega
            exact ihm j (by omega) (by omega) (by rw [getD_of hjs]; simpa using hju)
      obtain ⟨k, hk⟩ := key i0 i0 (Nat.le_refl _) hi0 hu0
      rw [h0] at hk; cases hk
    · have hin : i < n := by
        by_cases h : i < n
        · exact h
        · exact absurd hi (tail_waits hs hc hn' inv _ i0 rfl hi0 hu0 i (by omega))
      obtain ⟨hiu, oi, hoi, hall⟩ := mem_ready.1 hi
      have hdeps : ∀ j ∈ depsOf l i, Φ j (vs j) w' := fun j hj => by
        have hb1 := List.all_eq_true.1 hbk i (List.mem_range.2 hin)
        have hji := of_decide_eq_true (List.all_eq_true.1 hb1 _ hj)
        refine hΦ j (by omega) ?_
        unfold depsOf at hj
        rw [← pickN_eq, hoi] at hj
        simp only [Option.map_some, Option.getD_some] at hj
        obtain ⟨e, he, rfl⟩ := List.mem_map.1 hj
        obtain ⟨h1, h2⟩ := List.mem_filter.1 he
        exact hall e (by simpa using h1) h2
      obtain ⟨o, ho, hw⟩ := step i hin vs w' hg hdeps (wpAny P .any l.toArray Q (f + (l.length - n)) (listed.setIfInBounds i true)) (fun u w'' g hu => by
        have hdist : ∀ k ∈ List.range n, k ≠ i → (dstOf l k).isNone = true ∨ dstOf l k ≠ dstOf l i := fun k hk hne => by
          have h1 := List.all_eq_true.1 (List.all_eq_true.1 hap k hk) i (List.mem_range.2 hin)
          simp only [Bool.or_eq_true, decide_eq_true_eq] at h1
          rcases h1 with (h1 | h1) | h1
          · exact absurd h1 hne
          · exact Or.inl h1
          · exact Or.inr h1
        rw [putAll_set _ List.nodup_range (List.mem_range.2 hin) hdist]
        have hsz : i < listed.size := by rw [inv.size]; omega
        refine ih _ _ w'' (inv.set hi hin) (by have := leftN_set hin hsz hiu; omega) (hg.trans g) (fun j hj hl => ?_)
        by_cases hji : j = i
        · subst hji; simpa using hu
        · rw [getD_set_ne false (fun e => hji e.symm)] at hl
          simp only [if_neg hji]
          exact hst _ _ _ _ g (hΦ j hj hl))
      exact wpOp_of_list ((pickN_eq l i).trans ho) hw
/-- The region, by what holds of each operation's value. vs0: what the operations' slots hold ahead of it. -/
theorem wp_region_inv {l : List Oper} {id : Nat} {a : Act} {w : World} (n : Nat) (hm : P.follows .mixedOrders = true) (hB : invB l n = true) (vs0 : Nat → Value) (h0 : putAll l a vs0 (List.range n) = a)
    (Φ : Nat → Value → World → Prop) (hst : ∀ i v w w', Grow w w' → Φ i v w → Φ i v w')
    (step : ∀ i, i < n → ∀ vs w', Grow w w' → (∀ j ∈ depsOf l i, Φ j (vs j) w') → ∀ K : Act → World → Prop, (∀ u w'', Grow w' w'' → Φ i u w'' → K ((putAll l a vs (List.range n)).put (dstOf l i) u) w'') → ∃ o, pickN l i = some o ∧ wpList P l.toArray (Qn K Q) [o] (putAll l a vs (List.range n)) w')
    (fin : ∀ vs w', Grow w w' → (∀ j, j < n → Φ j (vs j) w') → wpList P l.toArray Q (l.drop n) (putAll l a vs (List.range n)) w') : (Code.region id l.toArray true).wp P Q a w := by
  have hn : n < l.length := by simp only [invB, Bool.and_eq_true, decide_eq_true_eq] at hB; exact hB.1.1.1.1.1
  refine wp_region_any hm ?_
  have inv0 : HeadInv .any l.toArray n (Array.replicate l.toArray.size false) :=
    ⟨by simp, fun j oj _ hl => (by rw [getD_replicate_false] at hl; cases hl), fun t _ ht => getD_in (by simpa using ht) (getD_replicate_false _ _)⟩
  have hleft : leftN n (Array.replicate l.toArray.size false) = n := by
    unfold leftN
    rw [List.filter_eq_self.2 (fun j hj => by rw [getD_in (by simp; have := List.mem_range.1 hj; omega) (getD_replicate_false _ _)]; rfl)]
    simp
  have := region_inv_go (P := P) (Q := Q) (w := w) n hB Φ hst step fin n _ vs0 { w with drawn := w.drawn + 1 } inv0 hleft (Grow.refl w).drew (fun j _ hl => by rw [getD_replicate_false] at hl; cases hl)
  rw [h0, show n + (l.length - n) = l.toArray.size by simp; omega] at this
  exact this
end
end Go.Proofs.Ythackfblfkpddaa
