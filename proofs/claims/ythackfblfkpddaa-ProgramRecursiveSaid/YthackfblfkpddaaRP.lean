/- Regions that draw their order, by parts: the operations from m to n in any order, by what holds of each one's value; then what follows. -/
import Derived.Test.YthackfblfkpddaaRI
namespace Go.Proofs.Ythackfblfkpddaa
open Go.RowKit
set_option linter.unusedSimpArgs false
set_option linter.unusedVariables false

def part (m n : Nat) : List Nat := List.range' m (n - m)
theorem mem_part {m n i : Nat} (h : m ≤ n) : i ∈ part m n ↔ m ≤ i ∧ i < n := by unfold part; rw [List.mem_range'_1]; omega
theorem part_nodup (m n : Nat) : (part m n).Nodup := List.nodup_range'
def firstN (l : List Oper) (n : Nat) : Array Bool := (Array.replicate n true) ++ (Array.replicate (l.length - n) false)
def partB (l : List Oper) (m n : Nat) : Bool :=
  decide (m < n) && decide (n ≤ l.length) &&
  ((part m n).all fun i => (part m n).all fun k => decide (i = k) || (dstOf l i).isNone || decide (dstOf l i ≠ dstOf l k)) &&
  ((part m n).all fun i => (depsOf l i).all fun j => decide (j < i)) &&
  ((part m n).all fun i => decide (i + 1 = n) || (part (i + 1) n).any fun j => (depsOf l j).contains i) &&
  ((part n l.length).all fun t => (depsOf l t).any fun j => decide (n ≤ j + 1) && decide (j < t))
section
variable {P : Program} {Q : Exit → Act → World → Prop}
structure PartInv (l : List Oper) (m n : Nat) (listed : Array Bool) : Prop where
  size : listed.size = l.length
  old : ∀ j, j < m → listed.getD j false = true
  closed : ∀ j, m ≤ j → j < n → listed.getD j false = true → ∀ d ∈ depsOf l j, listed.getD d false = true
  tail : ∀ t, n ≤ t → t < l.length → listed.getD t true = false
def leftP (m n : Nat) (listed : Array Bool) : Nat := ((part m n).filter fun j => !listed.getD j true).length
theorem leftP_set {m n i : Nat} {listed : Array Bool} (hi : i ∈ part m n) (hs : i < listed.size) (h : listed.getD i true = false) : leftP m n (listed.setIfInBounds i true) + 1 = leftP m n listed := by
  unfold leftP
  have key : ∀ (R : List Nat), R.Nodup → i ∈ R → (R.filter fun j => !(listed.setIfInBounds i true).getD j true).length + 1 = (R.filter fun j => !listed.getD j true).length := by
    intro R
    induction R with
    | nil => intro _ h; cases h
    | cons k is ih =>
      intro hn hm
      rw [List.nodup_cons] at hn
      by_cases hk : k = i
      · subst hk
        have e1 : (listed.setIfInBounds k true).getD k true = true := by simp [hs]
        have e2 : (is.filter fun j => !(listed.setIfInBounds k true).getD j true) = is.filter fun j => !listed.getD j true := by
          apply List.filter_congr
          intro j hj
          rw [getD_set_ne true (fun e => hn.1 (by rw [e]; exact hj))]
        simp only [List.filter_cons, e1, h, Bool.not_true, Bool.not_false, if_true, Bool.false_eq_true, if_false, List.length_cons, e2]
      · have hm' : i ∈ is := (List.mem_cons.1 hm).resolve_left (fun e => hk e.symm)
        have := ih hn.2 hm'
        rw [List.filter_cons, List.filter_cons, getD_set_ne true (fun e => hk e.symm)]
        split
        · simp only [List.length_cons]; omega
        · exact this
  exact key _ (part_nodup m n) hi
theorem dep_mem {l : List Oper} {i : Nat} (hi : i < l.length) {e : Edge} (he : e ∈ (l[i]).after) (hb : Region.binds .any e = true) : e.on ∈ depsOf l i := by
  unfold depsOf
  rw [← pickN_eq]
  simp only [List.getElem?_toArray, List.getElem?_eq_getElem hi, Option.map_some, Option.getD_some]
  exact List.mem_map.2 ⟨e, List.mem_filter.2 ⟨by simpa using he, hb⟩, rfl⟩
theorem ready_of {l : List Oper} {i : Nat} {listed : Array Bool} (hi : i < l.length) (hu : listed.getD i true = false) (hd : ∀ d ∈ depsOf l i, listed.getD d false = true) : i ∈ Region.ready .any l.toArray listed :=
  mem_ready.2 ⟨hu, l[i], by simp [hi], fun e he hb => hd _ (dep_mem hi he hb)⟩
theorem deps_of_ready {l : List Oper} {i : Nat} {listed : Array Bool} (h : i ∈ Region.ready .any l.toArray listed) : i < l.length ∧ listed.getD i true = false ∧ ∀ d ∈ depsOf l i, listed.getD d false = true := by
  obtain ⟨hu, o, ho, hall⟩ := mem_ready.1 h
  have hi : i < l.length := by have := (Array.getElem?_eq_some_iff.1 ho).1; simpa using this
  refine ⟨hi, hu, fun d hd => ?_⟩
  unfold depsOf at hd
  rw [← pickN_eq, ho] at hd
  simp only [Option.map_some, Option.getD_some] at hd
  obtain ⟨e, he, rfl⟩ := List.mem_map.1 hd
  obtain ⟨h1, h2⟩ := List.mem_filter.1 he
  exact hall e (by simpa using h1) h2
theorem region_part_go {l : List Oper} {a : Act} {w : World} (m n : Nat) (hB : partB l m n = true) (Φ : Nat → Value → World → Prop) (hst : ∀ i v w w', Grow w w' → Φ i v w → Φ i v w')
    (step : ∀ i, m ≤ i → i < n → ∀ vs w', Grow w w' → (∀ j ∈ depsOf l i, m ≤ j → Φ j (vs j) w') → ∀ K : Act → World → Prop, (∀ u w'', Grow w' w'' → Φ i u w'' → K ((putAll l a vs (part m n)).put (dstOf l i) u) w'') → ∃ o, pickN l i = some o ∧ wpList P l.toArray (Qn K Q) [o] (putAll l a vs (part m n)) w')
    (fin : ∀ vs w', Grow w w' → (∀ j, m ≤ j → j < n → Φ j (vs j) w') → wpAny P .any l.toArray Q (l.length - n) (firstN l n) (putAll l a vs (part m n)) w') :
    ∀ (f : Nat) (listed : Array Bool) (vs : Nat → Value) (w' : World), PartInv l m n listed → leftP m n listed = f → Grow w w' → (∀ j, m ≤ j → j < n → listed.getD j false = true → Φ j (vs j) w') →
      wpAny P .any l.toArray Q (f + (l.length - n)) listed (putAll l a vs (part m n)) w' := by
  simp only [partB, Bool.and_eq_true, decide_eq_true_eq] at hB
  obtain ⟨⟨⟨⟨⟨hmn, hnl⟩, hap⟩, hbk⟩, hsk⟩, hch⟩ := hB
  have hmem : ∀ i, i ∈ part m n ↔ m ≤ i ∧ i < n := fun i => mem_part (by omega)
  have hback : ∀ i, m ≤ i → i < n → ∀ d ∈ depsOf l i, d < i := fun i h1 h2 d hd => of_decide_eq_true (List.all_eq_true.1 (List.all_eq_true.1 hbk i ((hmem i).2 ⟨h1, h2⟩)) d hd)
  intro f
  induction f with
  | zero =>
    intro listed vs w' inv hleft hg hΦ
    have hall : ∀ j, m ≤ j → j < n → listed.getD j false = true := fun j h1 hj => by
      have hjs : j < listed.size := by rw [inv.size]; omega
      cases h : listed.getD j false with
      | true => rfl
      | false =>
        exfalso
        have : j ∈ (part m n).filter fun j => !listed.getD j true := List.mem_filter.2 ⟨(hmem j).2 ⟨h1, hj⟩, by rw [getD_of hjs, h]; rfl⟩
        rw [List.length_eq_zero_iff.1 hleft] at this
        cases this
    have hl : listed = firstN l n := by
      unfold firstN
      apply Array.ext
      · rw [inv.size]; simp; omega
      · intro i h1 h2
        by_cases hi : i < n
        · have : listed.getD i false = true := by
            by_cases hm : i < m
            · exact inv.old i hm
            · exact hall i (by omega) hi
          rw [Array.getElem_append_left (by simpa using hi)]
          simpa [h1] using this
        · have := inv.tail i (by omega) (by rw [← inv.size]; exact h1)
          rw [Array.getElem_append_right (by simpa using hi)]
          simpa [h1] using this
    rw [Nat.zero_add, hl]
    exact fin vs w' hg (fun j h1 hj => hΦ j h1 hj (hall j h1 hj))
  | succ f ih =>
    intro listed vs w' inv hleft hg hΦ
    have hex : ∃ i, m ≤ i ∧ i < n ∧ listed.getD i true = false := by
      have hpos : 0 < ((part m n).filter fun j => !listed.getD j true).length := by unfold leftP at hleft; omega
      obtain ⟨j, hj⟩ := List.exists_mem_of_length_pos hpos
      obtain ⟨h1, h2⟩ := List.mem_filter.1 hj
      obtain ⟨h3, h4⟩ := (hmem j).1 h1
      exact ⟨j, h3, h4, by simpa using h2⟩
    obtain ⟨i0, hm0, hi0, hu0⟩ := hex
    rw [show f + 1 + (l.length - n) = (f + (l.length - n)) + 1 by omega]
    refine ⟨fun h0 => ?_, fun i hi => ?_⟩
    · exfalso
      have key : ∀ (q i : Nat), i ≤ q → m ≤ i → i < n → listed.getD i true = false → ∃ k, k ∈ Region.ready .any l.toArray listed := by
        intro q
        induction q with
        | zero =>
          intro i hiq hmi hin hu
          exact ⟨i, ready_of (by omega) hu (fun d hd => by have := hback i hmi hin d hd; omega)⟩
        | succ q ihq =>
          intro i hiq hmi hin hu
          by_cases hd : ∀ d ∈ depsOf l i, listed.getD d false = true
          · exact ⟨i, ready_of (by omega) hu hd⟩
          · simp only [Classical.not_forall] at hd
            obtain ⟨j, hj, hju⟩ := hd
            have hji := hback i hmi hin j hj
            have hmj : m ≤ j := by
              by_cases h : j < m
              · exact absurd (inv.old j h) hju
              · omega
            have hjs : j < listed.size := by rw [inv.size]; omega
            exact ihq j (by omega) hmj (by omega) (by rw [getD_of hjs]; simpa using hju)
      obtain ⟨k, hk⟩ := key i0 i0 (Nat.le_refl _) hm0 hi0 hu0
      rw [h0] at hk; cases hk
    · obtain ⟨hil, hiu, hdl⟩ := deps_of_ready hi
      have hmi : m ≤ i := by
        by_cases h : i < m
        · have h1 := inv.old i h
          rw [getD_of (by rw [inv.size]; exact hil), h1] at hiu; cases hiu
        · omega
      have hin : i < n := by
        by_cases h : i < n
        · exact h
        · exfalso
          -- the last of the part has come up, so all of it has
          obtain ⟨j, hj, hj2⟩ := List.any_eq_true.1 (List.all_eq_true.1 hch i ((mem_part (by omega)).2 ⟨by omega, hil⟩))
          simp only [Bool.and_eq_true, decide_eq_true_eq] at hj2
          have hjl := hdl j hj
          have hjn : j + 1 = n := by
            by_cases h2 : j < n
            · omega
            · have := inv.tail j (by omega) (by omega)
              rw [getD_of (by rw [inv.size]; omega), hjl] at this; cases this
          have up : ∀ (d i : Nat), n - i = d → m ≤ i → i < n → listed.getD i false = true := by
            intro d
            induction d using Nat.strongRecOn with
            | _ d ihd =>
              intro i hd hmi hin
              by_cases hlast : i + 1 = n
              · have : i = j := by omega
                subst this; exact hjl
              · have h1 := List.all_eq_true.1 hsk i ((hmem i).2 ⟨hmi, hin⟩)
                simp only [Bool.or_eq_true, decide_eq_true_eq] at h1
                obtain ⟨k, hk, hk2⟩ := List.any_eq_true.1 (h1.resolve_left hlast)
                obtain ⟨hk3, hk4⟩ := (mem_part (by omega)).1 hk
                exact inv.closed k (by omega) hk4 (ihd (n - k) (by omega) k rfl (by omega) hk4) i (by simpa using hk2)
          have := up _ i0 rfl hm0 hi0
          rw [getD_of (by rw [inv.size]; omega), this] at hu0; cases hu0
      have hdeps : ∀ j ∈ depsOf l i, m ≤ j → Φ j (vs j) w' := fun j hj hmj => hΦ j hmj (by have := hback i hmi hin j hj; omega) (hdl j hj)
      obtain ⟨o, ho, hw⟩ := step i hmi hin vs w' hg hdeps (wpAny P .any l.toArray Q (f + (l.length - n)) (listed.setIfInBounds i true)) (fun u w'' g hu => by
        have hdist : ∀ k ∈ part m n, k ≠ i → (dstOf l k).isNone = true ∨ dstOf l k ≠ dstOf l i := fun k hk hne => by
          have h1 := List.all_eq_true.1 (List.all_eq_true.1 hap k hk) i ((hmem i).2 ⟨hmi, hin⟩)
          simp only [Bool.or_eq_true, decide_eq_true_eq] at h1
          rcases h1 with (h1 | h1) | h1
          · exact absurd h1 hne
          · exact Or.inl h1
          · exact Or.inr h1
        rw [putAll_set _ (part_nodup m n) ((hmem i).2 ⟨hmi, hin⟩) hdist]
        have hsz : i < listed.size := by rw [inv.size]; exact hil
        have inv' : PartInv l m n (listed.setIfInBounds i true) := by
          refine ⟨by simp [inv.size], fun j hj => getD_set_true (inv.old j hj), fun j hmj hjn hl d hd => ?_, fun t ht ht' => by rw [getD_set_ne true (by omega)]; exact inv.tail t ht ht'⟩
          by_cases hji : j = i
          · subst hji; exact getD_set_true (hdl d hd)
          · rw [getD_set_ne false (fun e => hji e.symm)] at hl
            exact getD_set_true (inv.closed j hmj hjn hl d hd)
        refine ih _ _ w'' inv' (by have := leftP_set ((hmem i).2 ⟨hmi, hin⟩) hsz hiu; omega) (hg.trans g) (fun j hmj hj hl => ?_)
        by_cases hji : j = i
        · subst hji; simpa using hu
        · rw [getD_set_ne false (fun e => hji e.symm)] at hl
          simp only [if_neg hji]
          exact hst _ _ _ _ g (hΦ j hmj hj hl))
      exact wpOp_of_list ((pickN_eq l i).trans ho) hw
theorem firstN_getD {l : List Oper} {n j : Nat} (b : Bool) (hj : j < n) : (firstN l n).getD j b = true := by
  unfold firstN
  rw [Array.getD_eq_getD_getElem?, Array.getElem?_append_left (by simpa using hj)]
  simp [hj]
theorem firstN_tail {l : List Oper} {n j : Nat} (b : Bool) (hj : n ≤ j) (hl : j < l.length) : (firstN l n).getD j b = false := by
  unfold firstN
  rw [Array.getD_eq_getD_getElem?, Array.getElem?_append_right (by simpa using hj)]
  simp [show j - n < l.length - n by omega]
/-- From m to n. vs0: what the slots of these operations hold. -/
theorem region_part {l : List Oper} {a : Act} {w : World} (m n : Nat) (hB : partB l m n = true) (vs0 : Nat → Value) (h0 : putAll l a vs0 (part m n) = a)
    (Φ : Nat → Value → World → Prop) (hst : ∀ i v w w', Grow w w' → Φ i v w → Φ i v w')
    (step : ∀ i, m ≤ i → i < n → ∀ vs w', Grow w w' → (∀ j ∈ depsOf l i, m ≤ j → Φ j (vs j) w') → ∀ K : Act → World → Prop, (∀ u w'', Grow w' w'' → Φ i u w'' → K ((putAll l a vs (part m n)).put (dstOf l i) u) w'') → ∃ o, pickN l i = some o ∧ wpList P l.toArray (Qn K Q) [o] (putAll l a vs (part m n)) w')
    (fin : ∀ vs w', Grow w w' → (∀ j, m ≤ j → j < n → Φ j (vs j) w') → wpAny P .any l.toArray Q (l.length - n) (firstN l n) (putAll l a vs (part m n)) w') :
    wpAny P .any l.toArray Q (l.length - m) (firstN l m) a w := by
  have hB' := hB
  simp only [partB, Bool.and_eq_true, decide_eq_true_eq] at hB'
  have hmn : m < n := hB'.1.1.1.1.1
  have hnl : n ≤ l.length := hB'.1.1.1.1.2
  have inv0 : PartInv l m n (firstN l m) := ⟨(by unfold firstN; simp; omega), fun j hj => firstN_getD _ hj, (fun j hj hjn hl => by rw [firstN_tail false hj (by omega)] at hl; cases hl), fun t ht hl => firstN_tail _ (by omega) hl⟩
  have hleft : leftP m n (firstN l m) = n - m := by
    unfold leftP
    rw [List.filter_eq_self.2 (fun j hj => by obtain ⟨h1, h2⟩ := (mem_part (by omega)).1 hj; rw [firstN_tail true h1 (by omega)]; rfl)]
    unfold part; simp
  have := region_part_go (P := P) (Q := Q) (w := w) m n hB Φ hst step fin (n - m) _ vs0 w inv0 hleft (Grow.refl w) (fun j hj hjn hl => by rw [firstN_tail false hj (by omega)] at hl; cases hl)
  rw [h0, show n - m + (l.length - n) = l.length - m by omega] at this
  exact this
theorem wp_region_parts {l : List Oper} {id : Nat} {a : Act} {w : World} (hm : P.follows .mixedOrders = true) (h : ∀ w', Grow w w' → wpAny P .any l.toArray Q (l.length - 0) (firstN l 0) a w') : (Code.region id l.toArray true).wp P Q a w := by
  refine wp_region_any hm ?_
  have := h _ (Grow.refl w).drew
  unfold firstN at this
  simpa using this
/-- All have come up. -/
theorem parts_end {l : List Oper} {a : Act} {w : World} (h : Q .normal a w) : wpAny P .any l.toArray Q (l.length - l.length) (firstN l l.length) a w := by
  rw [Nat.sub_self]
  refine ⟨?_, h⟩
  cases hr : Region.ready .any l.toArray (firstN l l.length) with
  | nil => rfl
  | cons i is =>
    obtain ⟨h1, h2, _⟩ := deps_of_ready (i := i) (by rw [hr]; exact List.mem_cons_self ..)
    rw [firstN_getD true h1] at h2; cases h2
/-- One operation that alone may come up. -/
theorem part_one {l : List Oper} {a : Act} {w : World} (m : Nat) (hB : Region.ready .any l.toArray (firstN l m) = [m]) (hl : m < l.length) (hs : (firstN l m).setIfInBounds m true = firstN l (m + 1)) {o : Oper} (ho : pickN l m = some o)
    (h : ∀ K : Act → World → Prop, (∀ a' w', wpAny P .any l.toArray Q (l.length - (m + 1)) (firstN l (m + 1)) a' w' → K a' w') → wpList P l.toArray (Qn K Q) [o] a w) : wpAny P .any l.toArray Q (l.length - m) (firstN l m) a w := by
  rw [show l.length - m = (l.length - (m + 1)) + 1 by omega]
  refine ⟨(fun h0 => by rw [hB] at h0; cases h0), fun i hi => ?_⟩
  rw [hB] at hi
  obtain rfl : i = m := by simpa using hi
  rw [hs]
  exact wpOp_of_list ((pickN_eq l i).trans ho) (h _ (fun _ _ h => h))
end
end Go.Proofs.Ythackfblfkpddaa
