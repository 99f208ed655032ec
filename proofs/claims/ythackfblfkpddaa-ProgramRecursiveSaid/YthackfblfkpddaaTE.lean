/- Regions that draw and store: what holds as long as the store has not come up. -/
import Derived.Test.YthackfblfkpddaaTD
namespace Go.Proofs.Ythackfblfkpddaa
open Go.RowKit
set_option linter.unusedSimpArgs false
set_option linter.unusedVariables false

theorem getD_set_true' {listed : Array Bool} {i : Nat} (h : i < listed.size) : (listed.setIfInBounds i true).getD i false = true := by
  simp [Array.getD, h]
section
variable {P : Program} {Q : Exit → Act → World → Prop}
theorem region_pre_go {l : List Oper} {a : Act} {w : World} (n : Nat) (hB : invB l n = true) (s : Nat) (hs8 : s < n) (Pre : World → Prop) (ρ : World → World → Prop) (hρ : ∀ a b c, ρ a b → ρ b c → ρ a c) (Φ : Nat → (Nat → Value) → World → Prop) (hst : ∀ i vs w w', ρ w w' → Φ i vs w → Φ i vs w') (hloc : ∀ i vs vs' w, (∀ j, j = i ∨ j ∈ depsOf l i → vs j = vs' j) → Φ i vs w → Φ i vs' w)
    (step : ∀ i, i < n → ∀ vs w', ρ w w' → (i = s ∨ i ∈ depsOf l s → Pre w') → (∀ j ∈ depsOf l i, Φ j vs w') → ∀ K : Act → World → Prop, (∀ u w'', ρ w' w'' → (i ≠ s → Pre w' → Pre w'') → Φ i (fun j => if j = i then u else vs j) w'' → K ((putAll l a vs (List.range n)).put (dstOf l i) u) w'') → ∃ o, pickN l i = some o ∧ wpList P l.toArray (Qn K Q) [o] (putAll l a vs (List.range n)) w')
    (fin : ∀ vs w', ρ w w' → (∀ j, j < n → Φ j vs w') → wpList P l.toArray Q (l.drop n) (putAll l a vs (List.range n)) w') :
    ∀ (f : Nat) (listed : Array Bool) (vs : Nat → Value) (w' : World), HeadInv .any l.toArray n listed → leftN n listed = f → ρ w w' → (listed.getD s false = false → Pre w') → (∀ j, j < n → listed.getD j false = true → Φ j vs w') →
      wpAny P .any l.toArray Q (f + (l.length - n)) listed (putAll l a vs (List.range n)) w' := by
  simp only [invB, Bool.and_eq_true, decide_eq_true_eq] at hB
  obtain ⟨⟨⟨⟨⟨hn, hs⟩, hc⟩, hap⟩, hbk⟩, hseq⟩ := hB
  have hn' : n < l.toArray.size := by simpa using hn
  intro f
  induction f with
  | zero =>
    intro listed vs w' inv hleft hg hpre hΦ
    have hall : ∀ j, j < n → listed.getD j false = true := fun j hj => by
      have hjs : j < listed.size := by rw [inv.size]; omega
      cases h : listed.getD j false with
      | true => rfl
      | false =>
        exfalso
        have : j ∈ (List.range n).filter fun j => !listed.getD j true := List.mem_filter.2 ⟨List.mem_range.2 hj, by rw [getD_of hjs, h]; rfl⟩
        rw [List.length_eq_zero_iff.1 hleft] at this
        cases this
    have hl : listed = (Array.replicate n true) ++ (Array.replicate (l.length - n) false) := by
      apply Array.ext
      · rw [inv.size]; simp; omega
      · intro i h1 h2
        by_cases hi : i < n
        · have := hall i hi
          rw [Array.getElem_append_left (by simpa using hi)]
          simpa [h1] using this
        · have := inv.tail i (by omega) (by rw [← inv.size]; exact h1)
          rw [Array.getElem_append_right (by simpa using hi)]
          simpa [h1] using this
    rw [Nat.zero_add]
    have := wpAny_of_seq (md := .any) (P := P) (Q' := Q) (l.drop n) n listed (putAll l a vs (List.range n)) w' (fun j => by simp [List.getElem?_drop]) (by rw [List.length_drop, hl]; exact hseq) (fin vs w' hg (fun j hj => hΦ j hj (hall j hj)))
    rwa [List.length_drop] at this
  | succ f ih =>
    intro listed vs w' inv hleft hg hpre hΦ
    -- some operation of the head has not come up: the first such
    have hex : ∃ i, i < n ∧ listed.getD i true = false := by
      have hpos : 0 < ((List.range n).filter fun j => !listed.getD j true).length := by unfold leftN at hleft; omega
      obtain ⟨j, hj⟩ := List.exists_mem_of_length_pos hpos
      obtain ⟨h1, h2⟩ := List.mem_filter.1 hj
      exact ⟨j, List.mem_range.1 h1, by simpa using h2⟩
    obtain ⟨i0, hi0, hu0⟩ := hex
    rw [show f + 1 + (l.length - n) = (f + (l.length - n)) + 1 by omega]
    refine ⟨fun h0 => ?_, fun i hi => ?_⟩
    · exfalso
      have key : ∀ (m i : Nat), i ≤ m → i < n → listed.getD i true = false → ∃ k, k ∈ Region.ready .any l.toArray listed := by
        intro m
        induction m with
        | zero =>
          intro i him hin hu
          refine ⟨i, mem_ready.2 ⟨hu, l.toArray[i]'(by omega), by simp [show i < l.length by simpa using (show i < l.toArray.size by omega)], fun e he hb => ?_⟩⟩
          have hb1 := List.all_eq_true.1 hbk i (List.mem_range.2 hin)
          have hmem : e.on ∈ depsOf l i := by
            unfold depsOf
            rw [← pickN_eq]
            have hlt : i < l.length := by simpa using (show i < l.toArray.size by omega)
            simp only [List.getElem?_toArray, List.getElem?_eq_getElem hlt, Option.map_some, Option.getD_some]
            exact List.mem_map.2 ⟨e, List.mem_filter.2 ⟨by simpa using he, hb⟩, rfl⟩
          have := of_decide_eq_true (List.all_eq_true.1 hb1 _ hmem)
          omega
        | succ m ihm =>
          intro i him hin hu
          by_cases hd : ∀ j ∈ depsOf l i, listed.getD j false = true
          · refine ⟨i, mem_ready.2 ⟨hu, l.toArray[i]'(by omega), by simp [show i < l.length by simpa using (show i < l.toArray.size by omega)], fun e he hb => ?_⟩⟩
            apply hd
            unfold depsOf
            rw [← pickN_eq]
            have hlt : i < l.length := by simpa using (show i < l.toArray.size by omega)
            simp only [List.getElem?_toArray, List.getElem?_eq_getElem hlt, Option.map_some, Option.getD_some]
            exact List.mem_map.2 ⟨e, List.mem_filter.2 ⟨by simpa using he, hb⟩, rfl⟩
          · simp only [Classical.not_forall] at hd
            obtain ⟨j, hj, hju⟩ := hd
            have hb1 := List.all_eq_true.1 hbk i (List.mem_range.2 hin)
            have hji := of_decide_eq_true (List.all_eq_true.1 hb1 _ hj)
            have hjs : j < listed.size := by rw [inv.size]; omega
            exact ihm j (by omega) (by omega) (by rw [getD_of hjs]; simpa using hju)
      obtain ⟨k, hk⟩ := key i0 i0 (Nat.le_refl _) hi0 hu0
      rw [h0] at hk; cases hk
    · have hin : i < n := by
        by_cases h : i < n
        · exact h
        · exact absurd hi (tail_waits hs hc hn' inv _ i0 rfl hi0 hu0 i (by omega))
      obtain ⟨hiu, oi, hoi, hall⟩ := mem_ready.1 hi
      have hdeps : ∀ j ∈ depsOf l i, Φ j vs w' := fun j hj => by
        have hb1 := List.all_eq_true.1 hbk i (List.mem_range.2 hin)
        have hji := of_decide_eq_true (List.all_eq_true.1 hb1 _ hj)
        refine hΦ j (by omega) ?_
        unfold depsOf at hj
        rw [← pickN_eq, hoi] at hj
        simp only [Option.map_some, Option.getD_some] at hj
        obtain ⟨e, he, rfl⟩ := List.mem_map.1 hj
        obtain ⟨h1, h2⟩ := List.mem_filter.1 he
        exact hall e (by simpa using h1) h2
      have hps : i = s ∨ i ∈ depsOf l s → Pre w' := fun hd => hpre (by
        rcases hd with rfl | hd
        · rw [← getD_of (by rw [inv.size]; simp; omega)]; exact hiu
        cases hl : listed.getD s false with
        | false => rfl
        | true =>
          exfalso
          have hsl : s < l.length := by omega
          unfold depsOf at hd
          rw [← pickN_eq] at hd
          simp only [List.getElem?_toArray, List.getElem?_eq_getElem hsl, Option.map_some, Option.getD_some] at hd
          obtain ⟨e, he, hek⟩ := List.mem_map.1 hd
          obtain ⟨h1, h2⟩ := List.mem_filter.1 he
          have hcl := inv.closed s l[s] (by simp [hsl]) hl e (by simpa using h1) h2
          rw [hek] at hcl
          rw [getD_of (by rw [inv.size]; simp; omega), hcl] at hiu; cases hiu)
      obtain ⟨o, ho, hw⟩ := step i hin vs w' hg hps hdeps (wpAny P .any l.toArray Q (f + (l.length - n)) (listed.setIfInBounds i true)) (fun u w'' g hpu hu => by
        have hdist : ∀ k ∈ List.range n, k ≠ i → (dstOf l k).isNone = true ∨ dstOf l k ≠ dstOf l i := fun k hk hne => by
          have h1 := List.all_eq_true.1 (List.all_eq_true.1 hap k hk) i (List.mem_range.2 hin)
          simp only [Bool.or_eq_true, decide_eq_true_eq] at h1
          rcases h1 with (h1 | h1) | h1
          · exact absurd h1 hne
          · exact Or.inl h1
          · exact Or.inr h1
        rw [putAll_set _ List.nodup_range (List.mem_range.2 hin) hdist]
        have hsz : i < listed.size := by rw [inv.size]; omega
        refine ih _ _ w'' (inv.set hi hin) (by have := leftN_set hin hsz hiu; omega) (hρ _ _ _ hg g) (fun hl => ?_) (fun j hj hl => ?_)
        · by_cases his : i = s
          · subst his; rw [getD_set_true' hsz] at hl; cases hl
          · rw [getD_set_ne false his] at hl
            exact hpu his (hpre hl)
        by_cases hji : j = i
        · subst hji; exact hu
        · rw [getD_set_ne false (fun e => hji e.symm)] at hl
          refine hloc j vs _ w'' (fun k hk => ?_) (hst _ _ _ _ g (hΦ j hj hl))
          have hki : k ≠ i := by
            rintro rfl
            rcases hk with hk | hk
            · exact hji hk.symm
            · have hjl : j < l.length := by omega
              have hcl : listed.getD k false = true := by
                unfold depsOf at hk
                rw [← pickN_eq] at hk
                simp only [List.getElem?_toArray, List.getElem?_eq_getElem hjl, Option.map_some, Option.getD_some] at hk
                obtain ⟨e, he, hek⟩ := List.mem_map.1 hk
                obtain ⟨h1, h2⟩ := List.mem_filter.1 he
                rw [← hek]
                exact inv.closed j l[j] (by simp [hjl]) hl e (by simpa using h1) h2
              rw [getD_of hsz, hcl] at hiu; cases hiu
          simp only [if_neg hki])
      exact wpOp_of_list ((pickN_eq l i).trans ho) hw
/-- The region, by what holds of each operation's value. vs0: what the operations' slots hold ahead of it. -/
theorem wp_region_pre {l : List Oper} {id : Nat} {a : Act} {w : World} (n : Nat) (hm : P.follows .mixedOrders = true) (hB : invB l n = true) (vs0 : Nat → Value) (h0 : putAll l a vs0 (List.range n) = a)
    (s : Nat) (hs8 : s < n) (Pre : World → Prop) (ρ : World → World → Prop) (hρ : ∀ a b c, ρ a b → ρ b c → ρ a c) (hgr : ∀ a b, Grow a b → ρ a b) (hp0 : ∀ w', Grow w w' → Pre w') (Φ : Nat → (Nat → Value) → World → Prop) (hst : ∀ i vs w w', ρ w w' → Φ i vs w → Φ i vs w') (hloc : ∀ i vs vs' w, (∀ j, j = i ∨ j ∈ depsOf l i → vs j = vs' j) → Φ i vs w → Φ i vs' w)
    (step : ∀ i, i < n → ∀ vs w', ρ w w' → (i = s ∨ i ∈ depsOf l s → Pre w') → (∀ j ∈ depsOf l i, Φ j vs w') → ∀ K : Act → World → Prop, (∀ u w'', ρ w' w'' → (i ≠ s → Pre w' → Pre w'') → Φ i (fun j => if j = i then u else vs j) w'' → K ((putAll l a vs (List.range n)).put (dstOf l i) u) w'') → ∃ o, pickN l i = some o ∧ wpList P l.toArray (Qn K Q) [o] (putAll l a vs (List.range n)) w')
    (fin : ∀ vs w', ρ w w' → (∀ j, j < n → Φ j vs w') → wpList P l.toArray Q (l.drop n) (putAll l a vs (List.range n)) w') : (Code.region id l.toArray true).wp P Q a w := by
  have hn : n < l.length := by simp only [invB, Bool.and_eq_true, decide_eq_true_eq] at hB; exact hB.1.1.1.1.1
  refine wp_region_any hm ?_
  have inv0 : HeadInv .any l.toArray n (Array.replicate l.toArray.size false) :=
    ⟨by simp, fun j oj _ hl => (by rw [getD_replicate_false] at hl; cases hl), fun t _ ht => getD_in (by simpa using ht) (getD_replicate_false _ _)⟩
  have hleft : leftN n (Array.replicate l.toArray.size false) = n := by
    unfold leftN
    rw [List.filter_eq_self.2 (fun j hj => by rw [getD_in (by simp; have := List.mem_range.1 hj; omega) (getD_replicate_false _ _)]; rfl)]
    simp
  have := region_pre_go (P := P) (Q := Q) (w := w) n hB s hs8 Pre ρ hρ Φ hst hloc step fin n _ vs0 { w with drawn := w.drawn + 1 } inv0 hleft (hgr _ _ (Grow.refl w).drew) (fun _ => hp0 _ (Grow.refl w).drew) (fun j _ hl => by rw [getD_replicate_false] at hl; cases hl)
  rw [h0, show n + (l.length - n) = l.toArray.size by simp; omega] at this
  exact this
end
section
variable {P : Program} {ops : Array Oper} {Q : Exit → Act → World → Prop} {a A : Act} {w : World}
/-- A region that draws: n operations in any order, then a tail of one order; the frame behind a name. -/
theorem region_pre' {l : List Oper} {id : Nat} (n N : Nat) (hm : P.follows .mixedOrders = true) (hB : invB l n = true) (hN : a.tmps.size = N) (hd : ((List.range n).all fun j => match dstOf l j with | some d => decide (d < N) | none => true) = true)
    (s : Nat) (hs8 : s < n) (Pre : World → Prop) (ρ : World → World → Prop) (hρ : ∀ a b c, ρ a b → ρ b c → ρ a c) (hgr : ∀ a b, Grow a b → ρ a b) (hp0 : ∀ w', Grow w w' → Pre w') (Φ : Nat → (Nat → Value) → World → Prop) (hst : ∀ i vs w w', ρ w w' → Φ i vs w → Φ i vs w') (hloc : ∀ i vs vs' w, (∀ j, j = i ∨ j ∈ depsOf l i → vs j = vs' j) → Φ i vs w → Φ i vs' w)
    (step : ∀ i, i < n → ∀ (vs : Nat → Value) (w' : World) (A : Act), ρ w w' → (i = s ∨ i ∈ depsOf l s → Pre w') → (∀ j ∈ depsOf l i, Φ j vs w') →
      (∀ j d, j < n → dstOf l j = some d → A.eval (.tmp d) = vs j) → (∀ k v, ((List.range n).all fun j => decide (dstOf l j ≠ some k)) = true → a.eval (.tmp k) = v → A.eval (.tmp k) = v) → A.tmps.size = N →
      ∀ K : Act → World → Prop, (∀ u w'', ρ w' w'' → (i ≠ s → Pre w' → Pre w'') → Φ i (fun j => if j = i then u else vs j) w'' → K (A.put (dstOf l i) u) w'') → ∃ o, pickN l i = some o ∧ wpList P l.toArray (Qn K Q) [o] A w')
    (fin : ∀ (vs : Nat → Value) (w' : World) (A : Act), A.defers = a.defers → ρ w w' → (∀ j, j < n → Φ j vs w') →
      (∀ j d, j < n → dstOf l j = some d → A.eval (.tmp d) = vs j) → (∀ k v, ((List.range n).all fun j => decide (dstOf l j ≠ some k)) = true → a.eval (.tmp k) = v → A.eval (.tmp k) = v) → A.tmps.size = N →
      wpList P l.toArray Q (l.drop n) A w') : (Code.region id l.toArray true).wp P Q a w := by
  have hB' := hB
  simp only [invB, Bool.and_eq_true, decide_eq_true_eq] at hB'
  have hap := hB'.1.1.2
  have hmem : ∀ i, i ∈ List.range n ↔ i < n := fun i => List.mem_range
  have hdN : ∀ j d, j < n → dstOf l j = some d → d < a.tmps.size := fun j d h2 h3 => by
    have h4 := List.all_eq_true.1 hd j ((hmem j).2 h2)
    rw [h3] at h4
    rw [hN]; exact of_decide_eq_true h4
  have hin : ∀ (vs : Nat → Value) j d, j < n → dstOf l j = some d → (putAll l a vs (List.range n)).eval (.tmp d) = vs j := fun vs j d h2 h3 =>
    eval_part h3 (hdN j d h2 h3) _ List.nodup_range ((hmem j).2 h2) (fun k hk hne h4 => by
      have h5 := List.all_eq_true.1 (List.all_eq_true.1 hap k hk) j ((hmem j).2 h2)
      simp only [Bool.or_eq_true, decide_eq_true_eq] at h5
      rcases h5 with (h5 | h5) | h5
      · exact hne h5
      · rw [h4] at h5; cases h5
      · exact h5 (by rw [h4, h3]))
  have hout : ∀ (vs : Nat → Value) k v, ((List.range n).all fun j => decide (dstOf l j ≠ some k)) = true → a.eval (.tmp k) = v → (putAll l a vs (List.range n)).eval (.tmp k) = v := fun vs k v h1 h2 => by
    rw [eval_base (List.range n) (fun j hj => of_decide_eq_true (List.all_eq_true.1 h1 j hj))]; exact h2
  have hsz : ∀ vs, (putAll l a vs (List.range n)).tmps.size = N := fun vs => by rw [size_putAll, hN]
  have hput : ∀ (R : List Nat), (∀ j ∈ R, j < n) → putAll l a (fun j => match dstOf l j with | some d => a.eval (.tmp d) | none => undef) R = a := by
    intro R
    induction R with
    | nil => intro _; rfl
    | cons i is ih =>
      intro h
      rw [putAll, ih (fun j hj => h j (List.mem_cons_of_mem _ hj))]
      cases hdi : dstOf l i with
      | none => rfl
      | some d =>
        have hlt := hdN i d (h i (List.mem_cons_self ..)) hdi
        show Act.mk (a.tmps.setIfInBounds d (a.tmps.getD d undef)) a.defers = a
        have : a.tmps.setIfInBounds d (a.tmps.getD d undef) = a.tmps := by
          apply Array.ext
          · simp
          · intro k hk1 hk2
            by_cases hkd : d = k
            · subst hkd; simp [hk2]
            · rw [Array.getElem_setIfInBounds_ne _ hkd]
        rw [this]
  exact wp_region_pre (P := P) (Q := Q) n hm hB _ (hput (List.range n) (fun j hj => (hmem j).1 hj)) s hs8 Pre ρ hρ hgr hp0 Φ hst hloc
    (fun i h2 vs w' hg hpi hΦ K hK => step i h2 vs w' _ hg hpi hΦ (hin vs) (hout vs) (hsz vs) K hK)
    (fun vs w' hg hΦ => fin vs w' _ (defers_putAll _) hg hΦ (hin vs) (hout vs) (hsz vs))
end
section
variable {P : Program} {ops : Array Oper} {Q : Exit → Act → World → Prop} {a : Act} {w : World} {N : Nat} {l : List (Nat × Value)}
/-- An operation whose value is known. -/
theorem st_pure (S : St8 a N l) {o : Oper} {rest : List Oper} (v : Value) {d : Nat} (hd : o.dst = some d) (hdN : Nat.blt d N = true) (hw : Region.wanted o (yielded ops a.tmps) = true)
    (he : (execOp a.eval o).run P w = .ok (.value v) w) (hK : ∀ A, St8 A N ((d, v) :: l) → wpList P ops Q rest A w) : wpList P ops Q (o :: rest) a w := by
  rw [wpList, if_pos hw]
  left
  unfold Oper.wp
  rw [he]
  have := hK _ (S.put (u := v) hdN)
  rw [← hd] at this
  exact this
/-- An operation whose guard is not met. -/
theorem st_skip (S : St8 a N l) {o : Oper} {rest : List Oper} {d : Nat} (hd : o.dst = some d) (hdN : Nat.blt d N = true) (hw : Region.wanted o (yielded ops a.tmps) = false)
    (hK : ∀ A, St8 A N ((d, undef) :: l) → wpList P ops Q rest A w) : wpList P ops Q (o :: rest) a w := by
  rw [wpList, if_neg (by rw [hw]; decide), hd]
  exact hK _ (S.put (u := undef) hdN)
theorem want_not {o : Oper} {g d : Nat} {b c : Bool} {og : Oper} (S : St8 a N l) (h : o.guard = some (g, b)) (ho : ops[g]? = some og) (hd : og.dst = some d) (hs : Nat.blt d N = true) (hv : l.lookup d = some (.bool c)) (hbc : (c == b) = false) : Region.wanted o (yielded ops a.tmps) = false := by
  have hs' : d < a.tmps.size := by rw [S.size]; exact Nat.blt_eq.mp hs
  have hv' : a.eval (.tmp d) = .bool c := S.g d hv
  have hy : yielded ops a.tmps g = some c := by
    unfold yielded
    rw [ho]
    simp only [Option.bind_some, hd]
    have : a.tmps[d]? = some (.bool c) := by
      have h2 : a.tmps.getD d undef = .bool c := hv'
      simp only [Array.getD, hs', dite_true] at h2
      rw [Array.getElem?_eq_getElem hs']
      simpa using h2
    rw [this]
  unfold Region.wanted
  rw [h]
  simp only [hy]
  cases b <;> cases c <;> first | rfl | (exact absurd hbc (by decide))
end
end Go.Proofs.Ythackfblfkpddaa
