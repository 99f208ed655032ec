/- Layer 8: one cell of a twin's block written, the functions in any order; two functions exchanged. -/
import Derived.Test.YthackfblfkpddaaL08y
import Derived.Test.YthackfblfkpddaaLR08
namespace Go.Proofs.Ythackfblfkpddaa
open Go.RowKit
set_option linter.unusedSimpArgs false
set_option linter.unusedVariables false

def Apart (fss : List FnS) : Prop := ∀ (i j : Nat) (hi : i < fss.length) (hj : j < fss.length), i ≠ j → fss[i].hi ≤ fss[j].lo ∨ fss[j].hi ≤ fss[i].lo
theorem Rising.apart {fss : List FnS} (h : Rising fss) : Apart fss := fun i j hi hj hne => by
  rcases Nat.lt_or_gt_of_ne hne with q | q
  · exact Or.inl (List.pairwise_iff_getElem.1 h i j hi hj q)
  · exact Or.inr (List.pairwise_iff_getElem.1 h j i hj hi q)
theorem Apart.set {fss : List FnS} (h : Apart fss) {k : Nat} {x : FnS} (hx : fss[k]? = some x) (f : Fn) : Apart (fss.set k ⟨f, x.lo, x.hi⟩) := fun i j hi hj hne => by
  obtain ⟨hk, rfl⟩ := List.getElem?_eq_some_iff.1 hx
  have hi' : i < fss.length := by simpa using hi
  have hj' : j < fss.length := by simpa using hj
  have e : ∀ (q : Nat) (hq : q < (fss.set k ⟨f, fss[k].lo, fss[k].hi⟩).length), ((fss.set k ⟨f, fss[k].lo, fss[k].hi⟩)[q]).lo = (fss[q]'(by simpa using hq)).lo ∧ ((fss.set k ⟨f, fss[k].lo, fss[k].hi⟩)[q]).hi = (fss[q]'(by simpa using hq)).hi := fun q hq => by
    by_cases hqk : q = k
    · subst hqk; simp
    · rw [List.getElem_set_ne (fun e => hqk e.symm)]; exact ⟨rfl, rfl⟩
  rw [(e i hi).1, (e i hi).2, (e j hj).1, (e j hj).2]
  exact h i j hi' hj' hne
theorem own_atA {base : Nat} {w : World} {v : Value} {fss : List FnS} (hown : Own (fun _ => False) base 50 w v fss) (hris : Apart fss) {fi : Nat} {x : FnS} (hx : fss[fi]? = some x) {bi : Nat} {b : Bk} (hb : x.f.blocks[bi]? = some b) :
    ∃ (bA n cap : Nat) (la : Option Addr) (ln lc R bn bc : Nat) (cur : Array Value) (sa : Option Addr) (sn sc : Nat) (ja : Option Addr) (jn jc lo hi : Nat),
      v = .slice (some ⟨bA, 0, none⟩) n cap ∧ bA < w.heap.size ∧ CellsAt w bA (fi * 4) (x.f.c (.slice la ln lc) (.slice (some ⟨R, 0, none⟩) bn bc)) ∧ Hid (bn = x.f.blocks.length) ∧ bn ≤ bc ∧ bc ≤ 9223372036854775807 ∧
      w.heap[R]? = some (.cells cur 63) ∧ R ≠ bA ∧ base ≤ R ∧ R < w.heap.size ∧ (∀ j (hj : j < 14), cur[bi * 14 + j]? = some ((b.c (.slice sa sn sc) (.slice ja jn jc))[j])) ∧ b.wf ∧
      OwnR lo hi 28 w (.slice ja jn jc) b.jump.args ∧ (∀ k, lo ≤ k → k < hi → base ≤ k ∧ k ≠ R ∧ k ≠ bA) ∧
      (∀ (c : Int) (w' : World), I64 c → (∀ k, k < w.heap.size → k ≠ R → w'.heap[k]? = w.heap[k]?) → w.heap.size ≤ w'.heap.size → w'.heap[R]? = some (.cells (cur.setIfInBounds (bi * 14 + 7) (.int .i64 c)) 63) →
        Own (fun _ => False) base 50 w' v (fss.set fi ⟨fnB x.f bi (bkJ b (juFn b.jump c)), x.lo, x.hi⟩)) ∧
      (∀ (l : List Opd) (na : Option Addr) (nn nc : Nat) (w' : World), (∀ k, k < w.heap.size → k ≠ R → (Value.slice ja jn jc).ownBlock ≠ some k → w'.heap[k]? = w.heap[k]?) → w'.heap[R]? = some (.cells (cur.setIfInBounds (bi * 14 + 10) (.slice na nn nc)) 63) →
        Sl (fun _ => True) w' (.slice na nn nc) l → Sl (fun _ => True) w' v ((fss.map FnS.f).set fi (fnB x.f bi (bkJ b (juArgs b.jump l))))) := by
  obtain ⟨G, css, hG, hl, hR, hn, hrow⟩ := hown
  obtain ⟨hfi, hxe⟩ := List.getElem?_eq_some_iff.1 hx
  have hRx := hR fi hfi (by omega)
  rw [hxe] at hRx
  obtain ⟨la, ln, lc, ba, bn, bc, e1, e2, e3, mid, m1, m2, e4, bss, e6, e7, e5⟩ := hRx
  obtain ⟨G', cs', hG', hv', hl', hR', hn', hrow'⟩ := e5
  obtain ⟨hbi, hbe⟩ := List.getElem?_eq_some_iff.1 hb
  have hbl : bss.length = x.f.blocks.length := by rw [← e6]; simp
  have hbi' : bi < bss.length := by omega
  have hbs : bss[bi].b = b := by
    have : (bss.map BkS.b)[bi]? = some b := by rw [e6]; exact hb
    rw [List.getElem?_map, List.getElem?_eq_getElem hbi'] at this; simpa using this
  have hRb := hR' bi hbi' (by omega)
  obtain ⟨sa, sn, sc, ja, jn, jc, f1, f2, f3, f4, f5⟩ := hRb
  rw [hbs] at f1 f2 f4 f5
  rcases id hrow.2 with ⟨_, h0⟩ | ⟨bA, cap, curA, rfl, hbA, hA, hnc, hcm, hcs, htake⟩
  · omega
  rcases id hrow'.2 with ⟨_, h0⟩ | ⟨R, cap', cur, hv2, hbR, hRc, hnc', hcm', hcs', htake'⟩
  · omega
  injection hv2 with q1 q2 q3
  subst q1 q2 q3
  have hAlt : bA < w.heap.size := (Array.getElem?_eq_some_iff.1 hA).1
  have hRlt : R < w.heap.size := (Array.getElem?_eq_some_iff.1 hRc).1
  have hRin : mid ≤ R ∧ R < x.hi := hv' R rfl
  have hGR : G R := (e3 R (by omega) hRin.2).1
  have hRA : R ≠ bA := fun e => (hG R hGR).2.2 (by rw [e]; rfl)
  have hbaseR : base ≤ R := (hG R hGR).2.1.resolve_left id
  have hG'R : ∀ k, G' k → mid ≤ k ∧ k < x.hi ∧ R ≠ k := fun k hk => ⟨(hG' k hk).1, (hG' k hk).2.1, fun e => (hG' k hk).2.2 (by rw [e]; rfl)⟩
  have hI : ∀ k, bss[bi].lo ≤ k → k < bss[bi].hi → mid ≤ k ∧ k < x.hi ∧ R ≠ k := fun k h1 h2 => hG'R k (f3 k h1 h2).1
  have hJrow : ∀ k, (Value.slice ja jn jc).ownBlock = some k → bss[bi].lo ≤ k ∧ k < bss[bi].hi := by
    obtain ⟨_, _, _, q, _⟩ := f5; exact q
  have hdis : ∀ (i : Nat) (h : i < fss.length), i ≠ fi → ∀ k, fss[i].lo ≤ k → k < fss[i].hi → ¬ (x.lo ≤ k ∧ k < x.hi) := by
    intro i h hne k k1 k2 k3
    have q := hris i fi h hfi hne
    rw [hxe] at q; omega
  have hdisB : ∀ (i : Nat) (h : i < bss.length), i ≠ bi → ∀ k, bss[i].lo ≤ k → k < bss[i].hi → ¬ (bss[bi].lo ≤ k ∧ k < bss[bi].hi) := by
    intro i h hne k k1 k2 k3
    rcases Nat.lt_or_gt_of_ne hne with q | q
    · have := List.pairwise_iff_getElem.1 e7 i bi h hbi' q; omega
    · have := List.pairwise_iff_getElem.1 e7 bi i hbi' h q; omega
  have hcell : ∀ j (hj : j < 14), cur[bi * 14 + j]? = some ((b.c (.slice sa sn sc) (.slice ja jn jc))[j]) := by
    intro j hj
    have := flatten_cells bss cs' hl' hR' bi (by omega) j (by rw [f1]; exact hj)
    rw [← htake'] at this
    have e : cur[bi * 14 + j]? = cur.toList[bi * 14 + j]? := by simp
    rw [e]
    rw [List.getElem?_take] at this
    split at this
    · rw [show Rp.sz BkS = 14 from rfl] at this
      rw [this]; simp only [f1]
    · cases this
  have hA14 : CellsAt w bA (fi * 4) (x.f.c (.slice la ln lc) (.slice (some ⟨R, 0, none⟩) bss.length bc)) := by
    intro j hj
    have := hrow.cells (g := bA) rfl (fi * 4 + j) _ (by
      have q := flatten_cells fss css hl hR fi (by omega) j (by rw [e1]; exact hj)
      rw [show Rp.sz FnS = 4 from rfl] at q; exact q)
    rw [Addr.add_lit] at this
    simp only [e1] at this
    simpa using this
  have hcs2 : cs'[bi]? = some (b.c (.slice sa sn sc) (.slice ja jn jc)) := by rw [List.getElem?_eq_getElem (by omega), f1]
  have hin : ∀ k, bss[bi].lo ≤ k → k < bss[bi].hi → base ≤ k ∧ k ≠ R ∧ k ≠ bA := fun k h1 h2 => by
    have q := hI k h1 h2
    have g := hG k (e3 k (by omega) q.2.1).1
    exact ⟨g.2.1.resolve_left id, Ne.symm q.2.2, fun e => g.2.2 (by rw [e]; rfl)⟩
  refine ⟨bA, _, cap, la, ln, lc, R, _, bc, cur, sa, sn, sc, ja, jn, jc, bss[bi].lo, bss[bi].hi, rfl, hAlt, hA14, Lib.hid hbl, hnc', by unfold maxLen at hcm'; exact hcm', hRc, hRA, hbaseR, hRlt, hcell, f2, f5, hin, ?_, ?_⟩
  · intro c w' hc hag hsz hw'
    have hlt' : ∀ k, k < w.heap.size → k < w'.heap.size := fun k hk => by omega
    refine ⟨G, css, fun k hk => ⟨hlt' k (hG k hk).1, (hG k hk).2⟩, by simpa using hl, fun i hi hi' => ?_, by simpa using hn, hrow.1.trans (by simp), .inr ⟨bA, cap, curA, by simp, hbA, by rw [hag bA hAlt (Ne.symm hRA)]; exact hA, by simpa using hnc, hcm, hcs, by simpa using htake⟩⟩
    have hi2 : i < fss.length := by simpa using hi
    by_cases e : i = fi
    · subst e
      rw [List.getElem_set_self]
      refine ⟨la, ln, lc, _, _, bc, e1, ⟨e2.1⟩, fun k h1 h2 => ⟨(e3 k h1 h2).1, hlt' k (e3 k h1 h2).2⟩, mid, m1, m2, e4.keep (fun k hk hlt => hag k hlt (by omega)), bss.set bi ⟨bkJ b (juFn b.jump c), bss[bi].lo, bss[bi].hi⟩, ?_, ?_, ?_⟩
      · rw [List.map_set, e6]; rfl
      · exact risingB_set e7 hbi' rfl rfl
      · exact OwnR.set (α := BkS) (w := w) (x' := ⟨bkJ b (juFn b.jump c), bss[bi].lo, bss[bi].hi⟩) hG'R hRin hl' hR' hn' rfl hnc' hcm' hcs' htake' (fun k hk hlt => hag k hlt (Ne.symm (hG'R k hk).2.2)) hbi' hcs2 (show 7 < 14 by omega)
          ⟨sa, sn, sc, ja, jn, jc, rfl, ⟨⟨f2.1.1, f2.1.2, hc, f2.1.4, f2.1.5, f2.1.6⟩⟩, fun k h1 h2 => ⟨(f3 k h1 h2).1, hlt' k (f3 k h1 h2).2⟩, f4.keep (fun k hk hlt => hag k hlt (Ne.symm (hI k hk.1 hk.2.1).2.2)), f5.keep (fun k hk hlt => hag k hlt (Ne.symm (hI k hk.1 hk.2).2.2))⟩ hw'
    · rw [List.getElem_set_ne (Ne.symm e)]
      have q := fns_narrow (hR i hi2 hi')
      have g1 := fns_in (hR i hi2 hi')
      refine Rp.wide (fun k _ hk => (g1 k hk.1 hk.2).1) (Rp.keep (fun k hk hlt => hag k hlt (fun ek => ?_)) q)
      exact hdis i hi2 e k hk.1 hk.2 (by subst ek; omega)
  · intro l na nn nc w' hag hw' hsl
    have hJ : ∀ k, (Value.slice ja jn jc).ownBlock = some k → x.lo ≤ k ∧ k < x.hi := fun k hk => by have := hJrow k hk; have := hI k this.1 this.2; omega
    have hJA : (Value.slice ja jn jc).ownBlock ≠ some bA := fun e => by have := hJrow bA e; exact (hin bA this.1 this.2).2.2 rfl
    have hA' : w'.heap[bA]? = some (.cells curA 50) := by rw [hag bA hAlt (Ne.symm hRA) hJA]; exact hA
    have hlen : fss.length = ((fss.map FnS.f).set fi (fnB x.f bi (bkJ b (juArgs b.jump l)))).length := by simp
    refine Sl.mk hlen trivial (Array.getElem?_eq_some_iff.1 hA').1 hnc (by unfold maxLen at hcm; exact hcm) fun i hi => ?_
    have hi2 : i < fss.length := by simpa using hi
    have hcA : CellsAt w' bA (0 + i * 4) (css[i]'(by omega)) := by
      intro j hj
      have := hrow.cells (g := bA) rfl (i * 4 + j) _ (by
        have q := flatten_cells fss css hl hR i (by omega) j hj
        rw [show Rp.sz FnS = 4 from rfl] at q; exact q)
      rw [Addr.add_lit] at this
      rw [← this]; simp only [World.cell?, hA', hA, Nat.zero_add]
    refine ⟨css[i]'(by omega), ?_, hcA⟩
    by_cases e : i = fi
    · subst e
      rw [List.getElem_set_self]
      refine ⟨la, ln, lc, _, _, bc, e1, ⟨e2.1⟩, (e4.keep (fun k hk hlt => hag k hlt (by omega) (fun eq => by have := hJrow k eq; have := (hI k this.1 this.2).1; omega))).wide (fun _ _ _ => trivial), ?_⟩
      show Sl _ w' _ (x.f.blocks.set bi (bkJ b (juArgs b.jump l)))
      have hlb : bss.length = (x.f.blocks.set bi (bkJ b (juArgs b.jump l))).length := by simp [hbl]
      refine Sl.mk hlb trivial (Array.getElem?_eq_some_iff.1 hw').1 hnc' (by unfold maxLen at hcm'; exact hcm') fun q hq => ?_
      have hq2 : q < bss.length := by simpa [hbl] using hq
      have hcq : ∀ j (hj : j < (cs'[q]'(by omega)).length), cur[q * 14 + j]? = some ((cs'[q]'(by omega))[j]) := by
        intro j hj
        have := flatten_cells bss cs' hl' hR' q (by omega) j hj
        rw [← htake'] at this
        have e : cur[q * 14 + j]? = cur.toList[q * 14 + j]? := by simp
        rw [e]
        rw [List.getElem?_take] at this
        split at this
        · rw [show Rp.sz BkS = 14 from rfl] at this; exact this
        · cases this
      have hlq : (cs'[q]'(by omega)).length = 14 := Rp.len (hR' q hq2 (by omega))
      by_cases eq : q = bi
      · subst eq
        rw [List.getElem_set_self]
        refine ⟨(b.c (.slice sa sn sc) (.slice ja jn jc)).set 10 (.slice na nn nc), ⟨sa, sn, sc, na, nn, nc, rfl, ⟨⟨f2.1.1, f2.1.2, f2.1.3, f2.1.4, f2.1.5, f2.1.6⟩⟩, (f4.keep (fun k hk hlt => hag k hlt (Ne.symm (hI k hk.1 hk.2.1).2.2) hk.2.2)).wide (fun _ _ _ => trivial), hsl⟩, fun j hj => ?_⟩
        have hj14 : j < 14 := by simpa using hj
        have hz : q * 14 + 10 < cur.size := (Array.getElem?_eq_some_iff.1 (hcell 10 (by omega))).1
        simp only [World.cell?, hw', Nat.zero_add]
        show (cur.setIfInBounds (q * 14 + 10) (.slice na nn nc))[q * 14 + j]? = _
        rw [Array.getElem?_setIfInBounds, List.getElem_set]
        by_cases z : 10 = j
        · subst z; rw [if_pos rfl, if_pos hz, if_pos rfl]
        · rw [if_neg (by omega), if_neg z, hcell j hj14]
      · have hqb : (x.f.blocks.set bi (bkJ b (juArgs b.jump l)))[q] = bss[q].b := by
          rw [List.getElem_set_ne (Ne.symm eq)]
          have : (bss.map BkS.b)[q]? = some (bss[q].b) := by rw [List.getElem?_map, List.getElem?_eq_getElem hq2]; rfl
          rw [e6] at this; exact (List.getElem?_eq_some_iff.1 this).2
        rw [hqb]
        refine ⟨cs'[q]'(by omega), bks_bk (Rp.wide (fun _ _ _ => trivial) (Rp.keep (F := fun k => bss[q].lo ≤ k ∧ k < bss[q].hi) (fun k hk hlt => hag k hlt (Ne.symm (hG'R k ((bks_in (hR' q hq2 (by omega))) k hk.1 hk.2).1).2.2) (fun eo => ?_)) (bks_narrow (hR' q hq2 (by omega))))), fun j hj => ?_⟩
        · have := hJrow k eo; exact hdisB q hq2 eq k hk.1 hk.2 this
        · simp only [World.cell?, hw', Nat.zero_add]
          show (cur.setIfInBounds (bi * 14 + 10) (.slice na nn nc))[q * 14 + j]? = _
          rw [Array.getElem?_setIfInBounds, if_neg (by omega), hcq j hj]
    · rw [List.getElem_set_ne (Ne.symm e), List.getElem_map]
      refine fns_fn (Rp.wide (fun _ _ _ => trivial) (Rp.keep (F := fun k => fss[i].lo ≤ k ∧ k < fss[i].hi) (fun k hk hlt => hag k hlt (fun ek => ?_) (fun eo => ?_)) (fns_narrow (hR i hi2 (by omega)))))
      · exact hdis i hi2 e k hk.1 hk.2 (by subst ek; omega)
      · exact hdis i hi2 e k hk.1 hk.2 (hJ k eo)
/-- Two elements exchanged. -/
def swL {α : Type} (l : List α) (c : Nat) (h0 : 0 < l.length) (hc : c < l.length) : List α := (l.set 0 l[c]).set c l[0]
theorem swL_len {α : Type} {l : List α} {c : Nat} (h0 : 0 < l.length) (hc : c < l.length) : (swL l c h0 hc).length = l.length := by simp [swL]
theorem swL_at {α : Type} {l : List α} {c i : Nat} (h0 : 0 < l.length) (hc : c < l.length) : (swL l c h0 hc)[i]? = l[sw c i]? := by
  unfold swL
  by_cases hi : i < l.length
  · by_cases hic : i = c
    · subst hic
      rw [sw_c, List.getElem?_set_self (by simpa using hc), List.getElem?_eq_getElem h0]
    · rw [List.getElem?_set_ne (fun e => hic e.symm)]
      by_cases hi0 : i = 0
      · subst hi0
        rw [sw_zero, List.getElem?_set_self h0, List.getElem?_eq_getElem hc]
      · rw [List.getElem?_set_ne (fun e => hi0 e.symm)]
        unfold sw; rw [if_neg hi0, if_neg hic]
  · have hs : sw c i = i := by unfold sw; rw [if_neg (by omega), if_neg (by omega)]
    rw [hs, List.getElem?_eq_none (by simp; omega), List.getElem?_eq_none (by omega)]
theorem swL_get {α : Type} {l : List α} {c i : Nat} (h0 : 0 < l.length) (hc : c < l.length) (hi : i < l.length) : (swL l c h0 hc)[i]'(by rw [swL_len]; exact hi) = l[sw c i]'(sw_lt hc hi) := by
  have h := swL_at (i := i) h0 hc
  rw [List.getElem?_eq_getElem (by rw [swL_len]; exact hi), List.getElem?_eq_getElem (sw_lt hc hi)] at h
  exact Option.some.inj h
theorem Apart.swap {fss : List FnS} (h : Apart fss) {c : Nat} (h0 : 0 < fss.length) (hc : c < fss.length) : Apart (swL fss c h0 hc) := fun i j hi hj hne => by
  rw [swL_len] at hi hj
  rw [swL_get h0 hc hi, swL_get h0 hc hj]
  exact h _ _ (sw_lt hc hi) (sw_lt hc hj) (fun e => hne (sw_inj e))
theorem swL_map {α β : Type} {l : List α} {c : Nat} (h0 : 0 < l.length) (hc : c < l.length) (f : α → β) : (swL l c h0 hc).map f = swL (l.map f) c (by simpa using h0) (by simpa using hc) := by
  apply List.ext_getElem?
  intro i
  rw [List.getElem?_map, swL_at, swL_at, List.getElem?_map]
/-- The row of an own slice, with elements exchanged. -/
theorem own_swap {base : Nat} {w w' : World} {g n cap : Nat} {fss : List FnS} (hown : Own (fun _ => False) base 50 w (.slice (some ⟨g, 0, none⟩) n cap) fss) {c : Nat} (h0 : 0 < fss.length) (hc : c < fss.length) {cur cur' : Array Value} (hg : w.heap[g]? = some (.cells cur 50))
    (hk : ∀ k, k < w.heap.size → k ≠ g → w'.heap[k]? = w.heap[k]?) (hs : w.heap.size ≤ w'.heap.size) (hg' : w'.heap[g]? = some (.cells cur' 50)) (hsz : cur'.size = cur.size)
    (hcell : ∀ i j, i < fss.length → j < 4 → cur'[i * 4 + j]? = cur[sw c i * 4 + j]?) : Own (fun _ => False) base 50 w' (.slice (some ⟨g, 0, none⟩) n cap) (swL fss c h0 hc) := by
  obtain ⟨G, css, hG, hl, hR, hn, hrow⟩ := hown
  rcases id hrow.2 with ⟨e, _⟩ | ⟨g2, cap2, cur2, hv, hb, hg2, hnc, hcm, hcs, htake⟩
  · cases e
  simp only [Value.slice.injEq, Option.some.injEq, Addr.mk.injEq, and_true] at hv
  obtain ⟨rfl, rfl, rfl⟩ := hv
  obtain rfl : cur = cur2 := by rw [hg] at hg2; simpa using hg2
  have hl0 : 0 < css.length := by omega
  have hlc : c < css.length := by omega
  have hag : Agr G w w' := fun k hGk hlt => hk k hlt (fun e => (hG k hGk).2.2 (by rw [e]; rfl))
  have hlen4 : ∀ i (h : i < css.length), css[i].length = 4 := fun i h => Rp.len (hR i (by omega) h)
  have hflen : (swL css c hl0 hlc).flatten.length = fss.length * 4 := by
    rw [flat_len (sz := 4) _ (fun d hd => by
      obtain ⟨q, hq, rfl⟩ := List.getElem_of_mem hd
      rw [swL_len] at hq
      rw [swL_get hl0 hlc hq]; exact hlen4 _ _), swL_len, hl]
  have hR' : ∀ i (h : i < (swL fss c h0 hc).length) (h' : i < (swL css c hl0 hlc).length), Rp.R G w' (swL fss c h0 hc)[i] (swL css c hl0 hlc)[i] := fun i h h' => by
    rw [swL_len] at h h'
    rw [swL_get h0 hc h, swL_get hl0 hlc h']
    exact Rp.keep hag (hR _ (sw_lt hc h) (sw_lt hlc h'))
  refine ⟨G, swL css c hl0 hlc, fun k hGk => ⟨by have := (hG k hGk).1; omega, (hG k hGk).2⟩, by rw [swL_len, swL_len, hl], hR', by rw [swL_len]; exact hn, by rw [swL_len]; exact hflen, .inr ⟨g, cap, cur', by rw [swL_len], hb, hg', by rw [swL_len]; exact hnc, hcm, by rw [hsz]; exact hcs, ?_⟩⟩
  apply List.ext_getElem?
  intro q
  rw [swL_len]
  have h4 : Rp.sz FnS = 4 := rfl
  rw [h4] at htake ⊢
  by_cases hq : q < fss.length * 4
  · obtain ⟨i, j, hj, rfl⟩ : ∃ i j, j < 4 ∧ q = i * 4 + j := ⟨q / 4, q % 4, Nat.mod_lt _ (by omega), by omega⟩
    have hi : i < fss.length := by omega
    have hsi := sw_lt hc hi
    have hic : i < css.length := by omega
    have hsc : sw c i < css.length := sw_lt hlc hic
    have e1 := flatten_cells (swL fss c h0 hc) (swL css c hl0 hlc) (by rw [swL_len, swL_len, hl]) hR' i (by rw [swL_len]; exact hic) j (by rw [swL_get hl0 hlc hic, hlen4 _ hsc]; exact hj)
    have e2 := flatten_cells fss css hl hR (sw c i) hsc j (by rw [hlen4 _ hsc]; exact hj)
    rw [List.getElem?_take, if_pos hq]
    have e3 : cur'.toList[i * 4 + j]? = cur.toList[sw c i * 4 + j]? := by simpa using hcell i j hi hj
    have e4 : (cur.toList.take (fss.length * 4))[sw c i * 4 + j]? = cur.toList[sw c i * 4 + j]? := by rw [List.getElem?_take, if_pos (by omega)]
    rw [e3, ← e4, htake]
    rw [h4] at e1 e2
    rw [e2, e1]
    congr 1
    simp only [swL_get hl0 hlc hic]
  · rw [List.getElem?_eq_none (by simp; omega), List.getElem?_eq_none (by omega)]
end Go.Proofs.Ythackfblfkpddaa
