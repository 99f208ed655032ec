/- Regions that draw their order and store, too: what holds of each operation's value and of the world, under a relation of worlds that a store keeps. -/
import Derived.Test.YthackfblfkpddaaTB
namespace Go.Proofs.Ythackfblfkpddaa
open Go.RowKit
set_option linter.unusedSimpArgs false
set_option linter.unusedVariables false

section
variable {P : Program} {Q : Exit → Act → World → Prop}
theorem region_rho_go {l : List Oper} {a : Act} {w : World} (n : Nat) (hB : invB l n = true) (ρ : World → World → Prop) (hρ : ∀ a b c, ρ a b → ρ b c → ρ a c) (Φ : Nat → (Nat → Value) → World → Prop) (hst : ∀ i vs w w', ρ w w' → Φ i vs w → Φ i vs w') (hloc : ∀ i vs vs' w, (∀ j, j = i ∨ j ∈ depsOf l i → vs j = vs' j) → Φ i vs w → Φ i vs' w)
    (step : ∀ i, i < n → ∀ vs w', ρ w w' → (∀ j ∈ depsOf l i, Φ j vs w') → ∀ K : Act → World → Prop, (∀ u w'', ρ w' w'' → Φ i (fun j => if j = i then u else vs j) w'' → K ((putAll l a vs (List.range n)).put (dstOf l i) u) w'') → ∃ o, pickN l i = some o ∧ wpList P l.toArray (Qn K Q) [o] (putAll l a vs (List.range n)) w')
    (fin : ∀ vs w', ρ w w' → (∀ j, j < n → Φ j vs w') → wpList P l.toArray Q (l.drop n) (putAll l a vs (List.range n)) w') :
    ∀ (f : Nat) (listed : Array Bool) (vs : Nat → Value) (w' : World), HeadInv .any l.toArray n listed → leftN n listed = f → ρ w w' → (∀ j, j < n → listed.getD j false = true → Φ j vs w') →
      wpAny P .any l.toArray Q (f + (l.length - n)) listed (putAll l a vs (List.range n)) w' := by
  simp only [invB, Bool.and_eq_true, decide_eq_true_eq] at hB
  obtain ⟨⟨⟨⟨⟨hn, hs⟩, hc⟩, hap⟩, hbk⟩, hseq⟩ := hB
  have hn' : n < l.toArray.size := by simpa using hn
  intro f
  induction f with
  | zero =>
    intro listed vs w' inv hleft hg hΦ
    have hall : ∀ j, j < n → listed.getD j false = true := fun j hj => by
      have hjs : j < listed.size := by rw [inv.size]; omega
      cases h : listed.getD j false with
      | true => rfl
      | false =>
        exfalso
        have : j ∈ (List.range n).filter fun j => !listed.getD j true := List.mem_filter.2 ⟨List.mem_range.2 hj, by rw [getD_of hjs, h]; rfl⟩
        rw [List.length_eq_zero_iff.1 hleft] at this
        cases this
    have hl : listed = (Array.replicate n true) ++ (Array.replicate (l.length - n) false) := by
      apply Array.ext
      · rw [inv.size]; simp; omega
      · intro i h1 h2
        by_cases hi : i < n
        · have := hall i hi
          rw [Array.getElem_append_left (by simpa using hi)]
          simpa [h1] using this
        · have := inv.tail i (by omega) (by rw [← inv.size]; exact h1)
          rw [Array.getElem_append_right (by simpa using hi)]
          simpa [h1] using this
    rw [Nat.zero_add]
    have := wpAny_of_seq (md := .any) (P := P) (Q' := Q) (l.drop n) n listed (putAll l a vs (List.range n)) w' (fun j => by simp [List.getElem?_drop]) (by rw [List.length_drop, hl]; exact hseq) (fin vs w' hg (fun j hj => hΦ j hj (hall j hj)))
    rwa [List.length_drop] at this
  | succ f ih =>
    intro listed vs w' inv hleft hg hΦ
    -- some operation of the head has not come up: the first such
    have hex : ∃ i, i < n ∧ listed.getD i true = false := by
      have hpos : 0 < ((List.range n).filter fun j => !listed.getD j true).length := by unfold leftN at hleft; omega
      obtain ⟨j, hj⟩ := List.exists_mem_of_length_pos hpos
      obtain ⟨h1, h2⟩ := List.mem_filter.1 hj
      exact ⟨j, List.mem_range.1 h1, by simpa using h2⟩
    obtain ⟨i0, hi0, hu0⟩ := hex
    rw [show f + 1 + (l.length - n) = (f + (l.length - n)) + 1 by omega]
    refine ⟨fun h0 => ?_, fun i hi => ?_⟩
    · exfalso
      have key : ∀ (m i : Nat), i ≤ m → i < n → listed.getD i true = false → ∃ k, k ∈ Region.ready .any l.toArray listed := by
        intro m
        induction m with
        | zero =>
          intro i him hin hu
          refine ⟨i, mem_ready.2 ⟨hu, l.toArray[i]'(by omega), by simp [show i < l.length by simpa using (show i < l.toArray.size by omega)], fun e he hb => ?_⟩⟩
          have hb1 := List.all_eq_true.1 hbk i (List.mem_range.2 hin)
          have hmem : e.on ∈ depsOf l i := by
            unfold depsOf
            rw [← pickN_eq]
            have hlt : i < l.length := by simpa using (show i < l.toArray.size by omega)
            simp only [List.getElem?_toArray, List.getElem?_eq_getElem hlt, Option.map_some, Option.getD_some]
            exact List.mem_map.2 ⟨e, List.mem_filter.2 ⟨by simpa using he, hb⟩, rfl⟩
          have := of_decide_eq_true (List.all_eq_true.1 hb1 _ hmem)
          omega
        | succ m ihm =>
          intro i him hin hu
          by_cases hd : ∀ j ∈ depsOf l i, listed.getD j false = true
          · refine ⟨i, mem_ready.2 ⟨hu, l.toArray[i]'(by omega), by simp [show i < l.length by simpa using (show i < l.toArray.size by omega)], fun e he hb => ?_⟩⟩
            apply hd
            unfold depsOf
            rw [← pickN_eq]
            have hlt : i < l.length := by simpa using (show i < l.toArray.size by omega)
            simp only [List.getElem?_toArray, List.getElem?_eq_getElem hlt, Option.map_some, Option.getD_some]
            exact List.mem_map.2 ⟨e, List.mem_filter.2 ⟨by simpa using he, hb⟩, rfl⟩
          · simp only [Classical.not_forall] at hd
            obtain ⟨j, hj, hju⟩ := hd
            have hb1 := List.all_eq_true.1 hbk i (List.mem_range.2 hin)
            have hji := of_decide_eq_true (List.all_eq_true.1 hb1 _ hj)
            have hjs : j < listed.size := by rw [inv.size]; omega
            exact ihm j (by omega) (by omega) (by rw [getD_of hjs]; simpa using hju)
      obtain ⟨k, hk⟩ := key i0 i0 (Nat.le_refl _) hi0 hu0
      rw [h0] at hk; cases hk
    · have hin : i < n := by
        by_cases h : i < n
        · exact h
        · exact absurd hi (tail_waits hs hc hn' inv _ i0 rfl hi0 hu0 i (by omega))
      obtain ⟨hiu, oi, hoi, hall⟩ := mem_ready.1 hi
      have hdeps : ∀ j ∈ depsOf l i, Φ j vs w' := fun j hj => by
        have hb1 := List.all_eq_true.1 hbk i (List.mem_range.2 hin)
        have hji := of_decide_eq_true (List.all_eq_true.1 hb1 _ hj)
        refine hΦ j (by omega) ?_
        unfold depsOf at hj
        rw [← pickN_eq, hoi] at hj
        simp only [Option.map_some, Option.getD_some] at hj
        obtain ⟨e, he, rfl⟩ := List.mem_map.1 hj
        obtain ⟨h1, h2⟩ := List.mem_filter.1 he
        exact hall e (by simpa using h1) h2
      obtain ⟨o, ho, hw⟩ := step i hin vs w' hg hdeps (wpAny P .any l.toArray Q (f + (l.length - n)) (listed.setIfInBounds i true)) (fun u w'' g hu => by
        have hdist : ∀ k ∈ List.range n, k ≠ i → (dstOf l k).isNone = true ∨ dstOf l k ≠ dstOf l i := fun k hk hne => by
          have h1 := List.all_eq_true.1 (List.all_eq_true.1 hap k hk) i (List.mem_range.2 hin)
          simp only [Bool.or_eq_true, decide_eq_true_eq] at h1
          rcases h1 with (h1 | h1) | h1
          · exact absurd h1 hne
          · exact Or.inl h1
          · exact Or.inr h1
        rw [putAll_set _ List.nodup_range (List.mem_range.2 hin) hdist]
        have hsz : i < listed.size := by rw [inv.size]; omega
        refine ih _ _ w'' (inv.set hi hin) (by have := leftN_set hin hsz hiu; omega) (hρ _ _ _ hg g) (fun j hj hl => ?_)
        by_cases hji : j = i
        · subst hji; exact hu
        · rw [getD_set_ne false (fun e => hji e.symm)] at hl
          refine hloc j vs _ w'' (fun k hk => ?_) (hst _ _ _ _ g (hΦ j hj hl))
          have hki : k ≠ i := by
            rintro rfl
            rcases hk with hk | hk
            · exact hji hk.symm
            · have hjl : j < l.length := by omega
              have hcl : listed.getD k false = true := by
                unfold depsOf at hk
                rw [← pickN_eq] at hk
                simp only [List.getElem?_toArray, List.getElem?_eq_getElem hjl, Option.map_some, Option.getD_some] at hk
                obtain ⟨e, he, hek⟩ := List.mem_map.1 hk
                obtain ⟨h1, h2⟩ := List.mem_filter.1 he
                rw [← hek]
                exact inv.closed j l[j] (by simp [hjl]) hl e (by simpa using h1) h2
              rw [getD_of hsz, hcl] at hiu; cases hiu
          simp only [if_neg hki])
      exact wpOp_of_list ((pickN_eq l i).trans ho) hw
/-- The region, by what holds of each operation's value. vs0: what the operations' slots hold ahead of it. -/
theorem wp_region_rho {l : List Oper} {id : Nat} {a : Act} {w : World} (n : Nat) (hm : P.follows .mixedOrders = true) (hB : invB l n = true) (vs0 : Nat → Value) (h0 : putAll l a vs0 (List.range n) = a)
    (ρ : World → World → Prop) (hρ : ∀ a b c, ρ a b → ρ b c → ρ a c) (hgr : ∀ a b, Grow a b → ρ a b) (Φ : Nat → (Nat → Value) → World → Prop) (hst : ∀ i vs w w', ρ w w' → Φ i vs w → Φ i vs w') (hloc : ∀ i vs vs' w, (∀ j, j = i ∨ j ∈ depsOf l i → vs j = vs' j) → Φ i vs w → Φ i vs' w)
    (step : ∀ i, i < n → ∀ vs w', ρ w w' → (∀ j ∈ depsOf l i, Φ j vs w') → ∀ K : Act → World → Prop, (∀ u w'', ρ w' w'' → Φ i (fun j => if j = i then u else vs j) w'' → K ((putAll l a vs (List.range n)).put (dstOf l i) u) w'') → ∃ o, pickN l i = some o ∧ wpList P l.toArray (Qn K Q) [o] (putAll l a vs (List.range n)) w')
    (fin : ∀ vs w', ρ w w' → (∀ j, j < n → Φ j vs w') → wpList P l.toArray Q (l.drop n) (putAll l a vs (List.range n)) w') : (Code.region id l.toArray true).wp P Q a w := by
  have hn : n < l.length := by simp only [invB, Bool.and_eq_true, decide_eq_true_eq] at hB; exact hB.1.1.1.1.1
  refine wp_region_any hm ?_
  have inv0 : HeadInv .any l.toArray n (Array.replicate l.toArray.size false) :=
    ⟨by simp, fun j oj _ hl => (by rw [getD_replicate_false] at hl; cases hl), fun t _ ht => getD_in (by simpa using ht) (getD_replicate_false _ _)⟩
  have hleft : leftN n (Array.replicate l.toArray.size false) = n := by
    unfold leftN
    rw [List.filter_eq_self.2 (fun j hj => by rw [getD_in (by simp; have := List.mem_range.1 hj; omega) (getD_replicate_false _ _)]; rfl)]
    simp
  have := region_rho_go (P := P) (Q := Q) (w := w) n hB ρ hρ Φ hst hloc step fin n _ vs0 { w with drawn := w.drawn + 1 } inv0 hleft (hgr _ _ (Grow.refl w).drew) (fun j _ hl => by rw [getD_replicate_false] at hl; cases hl)
  rw [h0, show n + (l.length - n) = l.toArray.size by simp; omega] at this
  exact this
end
section
variable {P : Program} {ops : Array Oper} {Q : Exit → Act → World → Prop} {a A : Act} {w : World}
/-- A region that draws: n operations in any order, then a tail of one order; the frame behind a name. -/
theorem region_rho' {l : List Oper} {id : Nat} (n N : Nat) (hm : P.follows .mixedOrders = true) (hB : invB l n = true) (hN : a.tmps.size = N) (hd : ((List.range n).all fun j => match dstOf l j with | some d => decide (d < N) | none => true) = true)
    (ρ : World → World → Prop) (hρ : ∀ a b c, ρ a b → ρ b c → ρ a c) (hgr : ∀ a b, Grow a b → ρ a b) (Φ : Nat → (Nat → Value) → World → Prop) (hst : ∀ i vs w w', ρ w w' → Φ i vs w → Φ i vs w') (hloc : ∀ i vs vs' w, (∀ j, j = i ∨ j ∈ depsOf l i → vs j = vs' j) → Φ i vs w → Φ i vs' w)
    (step : ∀ i, i < n → ∀ (vs : Nat → Value) (w' : World) (A : Act), ρ w w' → (∀ j ∈ depsOf l i, Φ j vs w') →
      (∀ j d, j < n → dstOf l j = some d → A.eval (.tmp d) = vs j) → (∀ k v, ((List.range n).all fun j => decide (dstOf l j ≠ some k)) = true → a.eval (.tmp k) = v → A.eval (.tmp k) = v) → A.tmps.size = N →
      ∀ K : Act → World → Prop, (∀ u w'', ρ w' w'' → Φ i (fun j => if j = i then u else vs j) w'' → K (A.put (dstOf l i) u) w'') → ∃ o, pickN l i = some o ∧ wpList P l.toArray (Qn K Q) [o] A w')
    (fin : ∀ (vs : Nat → Value) (w' : World) (A : Act), A.defers = a.defers → ρ w w' → (∀ j, j < n → Φ j vs w') →
      (∀ j d, j < n → dstOf l j = some d → A.eval (.tmp d) = vs j) → (∀ k v, ((List.range n).all fun j => decide (dstOf l j ≠ some k)) = true → a.eval (.tmp k) = v → A.eval (.tmp k) = v) → A.tmps.size = N →
      wpList P l.toArray Q (l.drop n) A w') : (Code.region id l.toArray true).wp P Q a w := by
  have hB' := hB
  simp only [invB, Bool.and_eq_true, decide_eq_true_eq] at hB'
  have hap := hB'.1.1.2
  have hmem : ∀ i, i ∈ List.range n ↔ i < n := fun i => List.mem_range
  have hdN : ∀ j d, j < n → dstOf l j = some d → d < a.tmps.size := fun j d h2 h3 => by
    have h4 := List.all_eq_true.1 hd j ((hmem j).2 h2)
    rw [h3] at h4
    rw [hN]; exact of_decide_eq_true h4
  have hin : ∀ (vs : Nat → Value) j d, j < n → dstOf l j = some d → (putAll l a vs (List.range n)).eval (.tmp d) = vs j := fun vs j d h2 h3 =>
    eval_part h3 (hdN j d h2 h3) _ List.nodup_range ((hmem j).2 h2) (fun k hk hne h4 => by
      have h5 := List.all_eq_true.1 (List.all_eq_true.1 hap k hk) j ((hmem j).2 h2)
      simp only [Bool.or_eq_true, decide_eq_true_eq] at h5
      rcases h5 with (h5 | h5) | h5
      · exact hne h5
      · rw [h4] at h5; cases h5
      · exact h5 (by rw [h4, h3]))
  have hout : ∀ (vs : Nat → Value) k v, ((List.range n).all fun j => decide (dstOf l j ≠ some k)) = true → a.eval (.tmp k) = v → (putAll l a vs (List.range n)).eval (.tmp k) = v := fun vs k v h1 h2 => by
    rw [eval_base (List.range n) (fun j hj => of_decide_eq_true (List.all_eq_true.1 h1 j hj))]; exact h2
  have hsz : ∀ vs, (putAll l a vs (List.range n)).tmps.size = N := fun vs => by rw [size_putAll, hN]
  have hput : ∀ (R : List Nat), (∀ j ∈ R, j < n) → putAll l a (fun j => match dstOf l j with | some d => a.eval (.tmp d) | none => undef) R = a := by
    intro R
    induction R with
    | nil => intro _; rfl
    | cons i is ih =>
      intro h
      rw [putAll, ih (fun j hj => h j (List.mem_cons_of_mem _ hj))]
      cases hdi : dstOf l i with
      | none => rfl
      | some d =>
        have hlt := hdN i d (h i (List.mem_cons_self ..)) hdi
        show Act.mk (a.tmps.setIfInBounds d (a.tmps.getD d undef)) a.defers = a
        have : a.tmps.setIfInBounds d (a.tmps.getD d undef) = a.tmps := by
          apply Array.ext
          · simp
          · intro k hk1 hk2
            by_cases hkd : d = k
            · subst hkd; simp [hk2]
            · rw [Array.getElem_setIfInBounds_ne _ hkd]
        rw [this]
  exact wp_region_rho (P := P) (Q := Q) n hm hB _ (hput (List.range n) (fun j hj => (hmem j).1 hj)) ρ hρ hgr Φ hst hloc
    (fun i h2 vs w' hg hΦ K hK => step i h2 vs w' _ hg hΦ (hin vs) (hout vs) (hsz vs) K hK)
    (fun vs w' hg hΦ => fin vs w' _ (defers_putAll _) hg hΦ (hin vs) (hout vs) (hsz vs))
end
/-- A world seen with one of its newer blocks in sight. -/
theorem split_box {W : World} {x : Ext} {R : Nat} {o : Obj} (h : (ext W x).heap[R]? = some o) (hR : W.heap.size ≤ R) : ∃ xa xb, R = (ext W xa).heap.size ∧ ext W x = ext ((ext W xa).alloc o) xb := by
  have hlt : R < (W.heap ++ x.x).size := (Array.getElem?_eq_some_iff.1 h).1
  have hsz : (W.heap ++ x.x).size = W.heap.size + x.x.size := by simp
  refine ⟨⟨0, x.x.extract 0 (R - W.heap.size)⟩, ⟨x.d, x.x.extract (R - W.heap.size + 1) x.x.size⟩, by simp [ext]; omega, ?_⟩
  simp only [ext, World.alloc]
  congr 1
  have h' : (W.heap ++ x.x)[R]? = some o := h
  apply Array.ext_getElem?
  intro i
  by_cases h1 : i < W.heap.size
  · rw [Array.getElem?_append_left h1, Array.getElem?_append_left (by simp; omega), Array.getElem?_push, if_neg (by simp; omega), Array.getElem?_append_left h1]
  · rw [Array.getElem?_append_right (by omega)]
    by_cases h2 : i < R
    · rw [Array.getElem?_append_left (by simp; omega), Array.getElem?_push, if_neg (by simp; omega), Array.getElem?_append_right (by omega), Array.getElem?_extract, if_pos (by omega)]; congr 1; omega
    · by_cases h3 : i = R
      · subst h3
        rw [Array.getElem?_append_left (by simp; omega), Array.getElem?_push, if_pos (by simp; omega)]
        rw [Array.getElem?_append_right (by omega)] at h'; exact h'
      · rw [Array.getElem?_append_right (by simp; omega), Array.getElem?_extract]
        simp only [Array.size_push, Array.size_append, Array.size_extract]
        by_cases h4 : i < W.heap.size + x.x.size
        · rw [if_pos (by omega)]; congr 1; omega
        · rw [if_neg (by omega), Array.getElem?_eq_none (by omega)]
theorem block_stay {w w' : World} {b : Nat} {o : Obj} (g : Grow w w') (h : w.heap[b]? = some o) : w'.heap[b]? = some o :=
  (Agr.of_grow (F := fun _ => True) g b trivial (Array.getElem?_eq_some_iff.1 h).1).trans h
theorem heap_newE {w : World} {o : Obj} {k : Nat} (h : k = w.heap.size) : (w.alloc o).heap[k]? = some o := by subst h; exact Array.getElem?_push_size
theorem agr_swap {W : World} {o o' : Obj} {x : Ext} {Z : Nat} (hZ : Z = W.heap.size) : Agr (fun k => k ≠ Z) (ext (W.alloc o) x) (ext (W.alloc o') x) := by
  intro k hk _
  have hk' : k ≠ W.heap.size := by rw [← hZ]; exact hk
  simp only [ext, World.alloc, Array.getElem?_append, Array.getElem?_push, if_neg hk', Array.size_push]
/-- More memory; and what was z may be V. -/
def Rho (W : World) (z V : Obj) (w w' : World) : Prop := (Grow W w → Grow W w') ∧ ∀ b o, W.heap.size ≤ b → w.heap[b]? = some o → w'.heap[b]? = some o ∨ (o = z ∧ w'.heap[b]? = some V)
theorem Rho.of {W : World} {z V : Obj} {w w' : World} (h : Grow w w') : Rho W z V w w' := ⟨fun g => g.trans h, fun _ _ _ ho => Or.inl (block_stay h ho)⟩
theorem Rho.trans {W : World} {z V : Obj} {a b c : World} (h : Rho W z V a b) (g : Rho W z V b c) : Rho W z V a c := by
  refine ⟨fun q => g.1 (h.1 q), fun k o hk ho => ?_⟩
  rcases h.2 k o hk ho with h1 | ⟨rfl, h1⟩
  · exact g.2 k o hk h1
  · rcases g.2 k V hk h1 with h2 | ⟨_, h2⟩
    · exact Or.inr ⟨rfl, h2⟩
    · exact Or.inr ⟨rfl, h2⟩
theorem Rho.store {W : World} {z V : Obj} {xa xb : Ext} : Rho W z V (ext ((ext W xa).alloc z) xb) (ext ((ext W xa).alloc V) xb) := by
  refine ⟨fun _ => Grow.ext (Grow.alloc (grow_ext W xa) V) xb, fun b o hb ho => ?_⟩
  by_cases h : b = (ext W xa).heap.size
  · have h1 := block_stay (grow_ext ((ext W xa).alloc z) xb) (heap_newE h (o := z))
    rw [ho] at h1
    exact Or.inr ⟨by simpa using h1, block_stay (grow_ext ((ext W xa).alloc V) xb) (heap_newE h (o := V))⟩
  · exact Or.inl ((agr_swap (o := z) (o' := V) (x := xb) rfl b h (Array.getElem?_eq_some_iff.1 ho).1).trans ho)
/-- A box that is to be written, or was. -/
def BoxZV (W : World) (z V : Obj) (v : Value) (w : World) : Prop := ∃ b, v = .pointer (some ⟨b, 0, none⟩) ∧ W.heap.size ≤ b ∧ (w.heap[b]? = some z ∨ w.heap[b]? = some V)
def BoxV (W : World) (V : Obj) (v : Value) (w : World) : Prop := ∃ b, v = .pointer (some ⟨b, 0, none⟩) ∧ W.heap.size ≤ b ∧ w.heap[b]? = some V
theorem BoxZV.stay {W : World} {z V : Obj} {v : Value} {w w' : World} (g : Rho W z V w w') (h : BoxZV W z V v w) : BoxZV W z V v w' := by
  obtain ⟨b, e, hb, h⟩ := h
  refine ⟨b, e, hb, ?_⟩
  rcases h with h | h
  · rcases g.2 b _ hb h with h1 | ⟨_, h1⟩
    · exact Or.inl h1
    · exact Or.inr h1
  · rcases g.2 b _ hb h with h1 | ⟨_, h1⟩ <;> exact Or.inr h1
theorem BoxV.stay {W : World} {z V : Obj} {v : Value} {w w' : World} (g : Rho W z V w w') (h : BoxV W V v w) : BoxV W V v w' := by
  obtain ⟨b, e, hb, h⟩ := h
  refine ⟨b, e, hb, ?_⟩
  rcases g.2 b _ hb h with h1 | ⟨_, h1⟩ <;> exact h1
end Go.Proofs.Ythackfblfkpddaa
