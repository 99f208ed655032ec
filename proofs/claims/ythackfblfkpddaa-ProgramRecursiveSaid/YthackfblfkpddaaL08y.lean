/- Layer 8: one cell of a twin's block written. -/
import Derived.Test.YthackfblfkpddaaL08w
import Derived.Test.YthackfblfkpddaaL07
namespace Go.Proofs.Ythackfblfkpddaa
open Go.RowKit
set_option linter.unusedSimpArgs false
set_option linter.unusedVariables false

theorem flat_len {sz : Nat} : ∀ (css : List (List Value)), (∀ c ∈ css, c.length = sz) → css.flatten.length = css.length * sz
  | [], _ => by simp
  | c :: l, h => by rw [List.flatten_cons, List.length_append, h c (by simp), flat_len l (fun d hd => h d (by simp [hd])), List.length_cons, Nat.add_mul]; omega
theorem flat_set {sz : Nat} : ∀ (css : List (List Value)) (i j : Nat) (u : Value) (c : List Value), (∀ c ∈ css, c.length = sz) → css[i]? = some c → j < sz → (css.set i (c.set j u)).flatten = css.flatten.set (i * sz + j) u
  | [], i, j, u, c, _, h, _ => by simp at h
  | d :: l, 0, j, u, c, hl, h, hj => by
    simp only [List.getElem?_cons_zero, Option.some.injEq] at h
    subst h
    rw [List.set_cons_zero, List.flatten_cons, List.flatten_cons, Nat.zero_mul, Nat.zero_add, List.set_append_left _ _ (by rw [hl d (by simp)]; exact hj)]
  | d :: l, i + 1, j, u, c, hl, h, hj => by
    have hd := hl d (by simp)
    rw [List.set_cons_succ, List.flatten_cons, List.flatten_cons, flat_set l i j u c (fun e he => hl e (by simp [he])) (by simpa using h) hj, List.set_append_right _ _ (by rw [hd, Nat.add_mul]; omega), hd]
    congr 2; rw [Nat.add_mul]; omega
/-- One cell of one element of an own row written. -/
theorem OwnR.set {α : Type} [Rp α] {lo hi : Nat} {e : TypeId} {w w' : World} {R n cap : Nat} {xs : List α} {G : Nat → Prop} {css : List (List Value)} {cur : Array Value}
    (hG : ∀ k, G k → lo ≤ k ∧ k < hi ∧ R ≠ k) (hR' : lo ≤ R ∧ R < hi) (hl : css.length = xs.length) (hR : ∀ i (h : i < xs.length) (h' : i < css.length), Rp.R G w xs[i] css[i]) (hn : xs.length ≤ 140737488355328)
    (hnn : n = xs.length) (hcap : n ≤ cap) (hcm : cap ≤ maxLen) (hcs : cur.size = cap * Rp.sz α) (htake : cur.toList.take (n * Rp.sz α) = css.flatten)
    (ag : Agr G w w') {i j : Nat} {x' : α} {u : Value} {c : List Value} (hii : i < xs.length) (hc : css[i]? = some c) (hj : j < Rp.sz α) (hx : Rp.R G w' x' (c.set j u)) (hw : w'.heap[R]? = some (.cells (cur.setIfInBounds (i * Rp.sz α + j) u) e)) :
    OwnR lo hi e w' (.slice (some ⟨R, 0, none⟩) n cap) (xs.set i x') := by
  have hlen : ∀ c ∈ css, c.length = Rp.sz α := by
    intro c hc; obtain ⟨q, hq, rfl⟩ := List.getElem_of_mem hc; exact Rp.len (hR q (by omega) hq)
  have hfl := flat_len css hlen
  refine ⟨G, css.set i (c.set j u), fun k hk => ⟨(hG k hk).1, (hG k hk).2.1, fun e => (hG k hk).2.2 (by simp [Value.ownBlock] at e; exact e)⟩, fun k hk => by simp [Value.ownBlock] at hk; subst hk; exact hR', by simp [hl], fun q hq hq' => ?_, by simpa using hn, ?_, .inr ⟨R, cap, _, by simp [hnn], hR'.1, hw, by simpa using (hnn ▸ hcap), hcm, by simpa using hcs, ?_⟩⟩
  · by_cases e : q = i
    · subst e; simp only [List.getElem_set_self]; exact hx
    · rw [List.getElem_set_ne (Ne.symm e), List.getElem_set_ne (Ne.symm e)]; exact Rp.keep ag (hR q (by simpa using hq) (by simpa using hq'))
  · rw [flat_set css i j u c hlen hc hj]; simp [hfl, hl]
  · rw [flat_set css i j u c hlen hc hj, ← htake]
    simp only [List.length_set, ← hnn, Array.toList_setIfInBounds]
    rw [List.take_set]
theorem set_same {α : Type} {l : List α} {i : Nat} {x : α} (h : l[i]? = some x) : l.set i x = l := by
  apply List.ext_getElem?; intro k
  rw [List.getElem?_set]
  by_cases e : i = k
  · subst e; rw [if_pos rfl, h]; simp [(List.getElem?_eq_some_iff.1 h).1]
  · rw [if_neg e]
/-- b with another jump. -/
def bkJ (b : Bk) (j : Ju) : Bk := ⟨b.stmts, j⟩
def juFn (j : Ju) (c : Int) : Ju := ⟨j.kind, j.a, c, j.next, j.els, j.args, j.dest⟩
def juArgs (j : Ju) (l : List Opd) : Ju := ⟨j.kind, j.a, j.fn, j.next, j.els, l, j.dest⟩
def fnB (f : Fn) (i : Nat) (b : Bk) : Fn := ⟨f.params, f.uns, f.locals, f.blocks.set i b⟩
theorem fns_in {F : Nat → Prop} {w : World} {x : FnS} {cs : List Value} (h : Rp.R F w x cs) : ∀ k, x.lo ≤ k → k < x.hi → F k ∧ k < w.heap.size := by
  obtain ⟨_, _, _, _, _, _, _, _, h3, _⟩ := h; exact h3
theorem fns_narrow {F : Nat → Prop} {w : World} {x : FnS} {cs : List Value} (h : Rp.R F w x cs) : Rp.R (fun k => x.lo ≤ k ∧ k < x.hi) w x cs := by
  obtain ⟨la, ln, lc, ba, bn, bc, h1, h2, h3, h4⟩ := h
  exact ⟨la, ln, lc, ba, bn, bc, h1, h2, fun k a b => ⟨⟨a, b⟩, (h3 k a b).2⟩, h4⟩
theorem bks_in {F : Nat → Prop} {w : World} {x : BkS} {cs : List Value} (h : Rp.R F w x cs) : ∀ k, x.lo ≤ k → k < x.hi → F k ∧ k < w.heap.size := by
  obtain ⟨_, _, _, _, _, _, _, _, h3, _⟩ := h; exact h3
theorem bks_narrow {F : Nat → Prop} {w : World} {x : BkS} {cs : List Value} (h : Rp.R F w x cs) : Rp.R (fun k => x.lo ≤ k ∧ k < x.hi) w x cs := by
  obtain ⟨la, ln, lc, ba, bn, bc, h1, h2, h3, h4⟩ := h
  exact ⟨la, ln, lc, ba, bn, bc, h1, h2, fun k a b => ⟨⟨a, b⟩, (h3 k a b).2⟩, h4⟩
theorem risingB_set {l : List BkS} (h : RisingB l) {i : Nat} (hi : i < l.length) {x : BkS} (h1 : x.lo = l[i].lo) (h2 : x.hi = l[i].hi) : RisingB (l.set i x) := by
  unfold RisingB at *
  rw [List.pairwise_iff_getElem] at *
  intro a b ha hb hab
  have := h a b (by simpa using ha) (by simpa using hb) hab
  rw [List.getElem_set, List.getElem_set]
  by_cases ea : i = a
  · subst ea
    rw [if_pos rfl, if_neg (by omega), h2]; exact this
  · by_cases eb : i = b
    · subst eb; rw [if_neg ea, if_pos rfl, h1]; exact this
    · rw [if_neg ea, if_neg eb]; exact this
theorem rising_set {l : List FnS} (h : Rising l) {i : Nat} (hi : i < l.length) {x : FnS} (h1 : x.lo = l[i].lo) (h2 : x.hi = l[i].hi) : Rising (l.set i x) := by
  unfold Rising at *
  rw [List.pairwise_iff_getElem] at *
  intro a b ha hb hab
  have := h a b (by simpa using ha) (by simpa using hb) hab
  rw [List.getElem_set, List.getElem_set]
  by_cases ea : i = a
  · subst ea
    rw [if_pos rfl, if_neg (by omega), h2]; exact this
  · by_cases eb : i = b
    · subst eb; rw [if_neg ea, if_pos rfl, h1]; exact this
    · rw [if_neg ea, if_neg eb]; exact this
/-- The block bi of the function fi, in memory; and what is so when one of its cells is written. -/
theorem own_at {base : Nat} {w : World} {v : Value} {fss : List FnS} (hown : Own (fun _ => False) base 50 w v fss) (hris : Rising fss) {fi : Nat} {x : FnS} (hx : fss[fi]? = some x) {bi : Nat} {b : Bk} (hb : x.f.blocks[bi]? = some b) :
    ∃ (bA n cap : Nat) (la : Option Addr) (ln lc R bn bc : Nat) (cur : Array Value) (sa : Option Addr) (sn sc : Nat) (ja : Option Addr) (jn jc lo hi : Nat),
      v = .slice (some ⟨bA, 0, none⟩) n cap ∧ bA < w.heap.size ∧ CellsAt w bA (fi * 4) (x.f.c (.slice la ln lc) (.slice (some ⟨R, 0, none⟩) bn bc)) ∧ Hid (bn = x.f.blocks.length) ∧ bn ≤ bc ∧ bc ≤ 9223372036854775807 ∧
      w.heap[R]? = some (.cells cur 63) ∧ R ≠ bA ∧ base ≤ R ∧ R < w.heap.size ∧ (∀ j (hj : j < 14), cur[bi * 14 + j]? = some ((b.c (.slice sa sn sc) (.slice ja jn jc))[j])) ∧ b.wf ∧
      OwnR lo hi 28 w (.slice ja jn jc) b.jump.args ∧ (∀ k, lo ≤ k → k < hi → base ≤ k ∧ k ≠ R ∧ k ≠ bA) ∧
      (∀ (c : Int) (w' : World), I64 c → (∀ k, k < w.heap.size → k ≠ R → w'.heap[k]? = w.heap[k]?) → w.heap.size ≤ w'.heap.size → w'.heap[R]? = some (.cells (cur.setIfInBounds (bi * 14 + 7) (.int .i64 c)) 63) →
        Own (fun _ => False) base 50 w' v (fss.set fi ⟨fnB x.f bi (bkJ b (juFn b.jump c)), x.lo, x.hi⟩)) ∧
      (∀ (l : List Opd) (na : Option Addr) (nn nc : Nat) (w' : World), (∀ k, k < w.heap.size → k ≠ R → (Value.slice ja jn jc).ownBlock ≠ some k → w'.heap[k]? = w.heap[k]?) → w'.heap[R]? = some (.cells (cur.setIfInBounds (bi * 14 + 10) (.slice na nn nc)) 63) →
        Sl (fun _ => True) w' (.slice na nn nc) l → Sl (fun _ => True) w' v ((fss.map FnS.f).set fi (fnB x.f bi (bkJ b (juArgs b.jump l))))) := by
  obtain ⟨G, css, hG, hl, hR, hn, hrow⟩ := hown
  obtain ⟨hfi, hxe⟩ := List.getElem?_eq_some_iff.1 hx
  have hRx := hR fi hfi (by omega)
  rw [hxe] at hRx
  obtain ⟨la, ln, lc, ba, bn, bc, e1, e2, e3, mid, m1, m2, e4, bss, e6, e7, e5⟩ := hRx
  obtain ⟨G', cs', hG', hv', hl', hR', hn', hrow'⟩ := e5
  obtain ⟨hbi, hbe⟩ := List.getElem?_eq_some_iff.1 hb
  have hbl : bss.length = x.f.blocks.length := by rw [← e6]; simp
  have hbi' : bi < bss.length := by omega
  have hbs : bss[bi].b = b := by
    have : (bss.map BkS.b)[bi]? = some b := by rw [e6]; exact hb
    rw [List.getElem?_map, List.getElem?_eq_getElem hbi'] at this; simpa using this
  have hRb := hR' bi hbi' (by omega)
  obtain ⟨sa, sn, sc, ja, jn, jc, f1, f2, f3, f4, f5⟩ := hRb
  rw [hbs] at f1 f2 f4 f5
  rcases id hrow.2 with ⟨_, h0⟩ | ⟨bA, cap, curA, rfl, hbA, hA, hnc, hcm, hcs, htake⟩
  · omega
  rcases id hrow'.2 with ⟨_, h0⟩ | ⟨R, cap', cur, hv2, hbR, hRc, hnc', hcm', hcs', htake'⟩
  · omega
  injection hv2 with q1 q2 q3
  subst q1 q2 q3
  have hAlt : bA < w.heap.size := (Array.getElem?_eq_some_iff.1 hA).1
  have hRlt : R < w.heap.size := (Array.getElem?_eq_some_iff.1 hRc).1
  have hRin : mid ≤ R ∧ R < x.hi := hv' R rfl
  have hGR : G R := (e3 R (by omega) hRin.2).1
  have hRA : R ≠ bA := fun e => (hG R hGR).2.2 (by rw [e]; rfl)
  have hbaseR : base ≤ R := (hG R hGR).2.1.resolve_left id
  have hG'R : ∀ k, G' k → mid ≤ k ∧ k < x.hi ∧ R ≠ k := fun k hk => ⟨(hG' k hk).1, (hG' k hk).2.1, fun e => (hG' k hk).2.2 (by rw [e]; rfl)⟩
  have hI : ∀ k, bss[bi].lo ≤ k → k < bss[bi].hi → mid ≤ k ∧ k < x.hi ∧ R ≠ k := fun k h1 h2 => hG'R k (f3 k h1 h2).1
  have hJrow : ∀ k, (Value.slice ja jn jc).ownBlock = some k → bss[bi].lo ≤ k ∧ k < bss[bi].hi := by
    obtain ⟨_, _, _, q, _⟩ := f5; exact q
  have hdis : ∀ (i : Nat) (h : i < fss.length), i ≠ fi → ∀ k, fss[i].lo ≤ k → k < fss[i].hi → ¬ (x.lo ≤ k ∧ k < x.hi) := by
    intro i h hne k k1 k2 k3
    rcases Nat.lt_or_gt_of_ne hne with q | q
    · have := List.pairwise_iff_getElem.1 hris i fi h hfi q; rw [hxe] at this; omega
    · have := List.pairwise_iff_getElem.1 hris fi i hfi h q; rw [hxe] at this; omega
  have hdisB : ∀ (i : Nat) (h : i < bss.length), i ≠ bi → ∀ k, bss[i].lo ≤ k → k < bss[i].hi → ¬ (bss[bi].lo ≤ k ∧ k < bss[bi].hi) := by
    intro i h hne k k1 k2 k3
    rcases Nat.lt_or_gt_of_ne hne with q | q
    · have := List.pairwise_iff_getElem.1 e7 i bi h hbi' q; omega
    · have := List.pairwise_iff_getElem.1 e7 bi i hbi' h q; omega
  have hcell : ∀ j (hj : j < 14), cur[bi * 14 + j]? = some ((b.c (.slice sa sn sc) (.slice ja jn jc))[j]) := by
    intro j hj
    have := flatten_cells bss cs' hl' hR' bi (by omega) j (by rw [f1]; exact hj)
    rw [← htake'] at this
    have e : cur[bi * 14 + j]? = cur.toList[bi * 14 + j]? := by simp
    rw [e]
    rw [List.getElem?_take] at this
    split at this
    · rw [show Rp.sz BkS = 14 from rfl] at this
      rw [this]; simp only [f1]
    · cases this
  have hA14 : CellsAt w bA (fi * 4) (x.f.c (.slice la ln lc) (.slice (some ⟨R, 0, none⟩) bss.length bc)) := by
    intro j hj
    have := hrow.cells (g := bA) rfl (fi * 4 + j) _ (by
      have q := flatten_cells fss css hl hR fi (by omega) j (by rw [e1]; exact hj)
      rw [show Rp.sz FnS = 4 from rfl] at q; exact q)
    rw [Addr.add_lit] at this
    simp only [e1] at this
    simpa using this
  have hcs2 : cs'[bi]? = some (b.c (.slice sa sn sc) (.slice ja jn jc)) := by rw [List.getElem?_eq_getElem (by omega), f1]
  have hin : ∀ k, bss[bi].lo ≤ k → k < bss[bi].hi → base ≤ k ∧ k ≠ R ∧ k ≠ bA := fun k h1 h2 => by
    have q := hI k h1 h2
    have g := hG k (e3 k (by omega) q.2.1).1
    exact ⟨g.2.1.resolve_left id, Ne.symm q.2.2, fun e => g.2.2 (by rw [e]; rfl)⟩
  refine ⟨bA, _, cap, la, ln, lc, R, _, bc, cur, sa, sn, sc, ja, jn, jc, bss[bi].lo, bss[bi].hi, rfl, hAlt, hA14, Lib.hid hbl, hnc', by unfold maxLen at hcm'; exact hcm', hRc, hRA, hbaseR, hRlt, hcell, f2, f5, hin, ?_, ?_⟩
  · intro c w' hc hag hsz hw'
    have hlt' : ∀ k, k < w.heap.size → k < w'.heap.size := fun k hk => by omega
    refine ⟨G, css, fun k hk => ⟨hlt' k (hG k hk).1, (hG k hk).2⟩, by simpa using hl, fun i hi hi' => ?_, by simpa using hn, hrow.1.trans (by simp), .inr ⟨bA, cap, curA, by simp, hbA, by rw [hag bA hAlt (Ne.symm hRA)]; exact hA, by simpa using hnc, hcm, hcs, by simpa using htake⟩⟩
    have hi2 : i < fss.length := by simpa using hi
    by_cases e : i = fi
    · subst e
      rw [List.getElem_set_self]
      refine ⟨la, ln, lc, _, _, bc, e1, ⟨e2.1⟩, fun k h1 h2 => ⟨(e3 k h1 h2).1, hlt' k (e3 k h1 h2).2⟩, mid, m1, m2, e4.keep (fun k hk hlt => hag k hlt (by omega)), bss.set bi ⟨bkJ b (juFn b.jump c), bss[bi].lo, bss[bi].hi⟩, ?_, ?_, ?_⟩
      · rw [List.map_set, e6]; rfl
      · exact risingB_set e7 hbi' rfl rfl
      · exact OwnR.set (α := BkS) (w := w) (x' := ⟨bkJ b (juFn b.jump c), bss[bi].lo, bss[bi].hi⟩) hG'R hRin hl' hR' hn' rfl hnc' hcm' hcs' htake' (fun k hk hlt => hag k hlt (Ne.symm (hG'R k hk).2.2)) hbi' hcs2 (show 7 < 14 by omega)
          ⟨sa, sn, sc, ja, jn, jc, rfl, ⟨⟨f2.1.1, f2.1.2, hc, f2.1.4, f2.1.5, f2.1.6⟩⟩, fun k h1 h2 => ⟨(f3 k h1 h2).1, hlt' k (f3 k h1 h2).2⟩, f4.keep (fun k hk hlt => hag k hlt (Ne.symm (hI k hk.1 hk.2.1).2.2)), f5.keep (fun k hk hlt => hag k hlt (Ne.symm (hI k hk.1 hk.2).2.2))⟩ hw'
    · rw [List.getElem_set_ne (Ne.symm e)]
      have q := fns_narrow (hR i hi2 hi')
      have g1 := fns_in (hR i hi2 hi')
      refine Rp.wide (fun k _ hk => (g1 k hk.1 hk.2).1) (Rp.keep (fun k hk hlt => hag k hlt (fun ek => ?_)) q)
      exact hdis i hi2 e k hk.1 hk.2 (by subst ek; omega)
  · intro l na nn nc w' hag hw' hsl
    have hJ : ∀ k, (Value.slice ja jn jc).ownBlock = some k → x.lo ≤ k ∧ k < x.hi := fun k hk => by have := hJrow k hk; have := hI k this.1 this.2; omega
    have hJA : (Value.slice ja jn jc).ownBlock ≠ some bA := fun e => by have := hJrow bA e; exact (hin bA this.1 this.2).2.2 rfl
    have hA' : w'.heap[bA]? = some (.cells curA 50) := by rw [hag bA hAlt (Ne.symm hRA) hJA]; exact hA
    have hlen : fss.length = ((fss.map FnS.f).set fi (fnB x.f bi (bkJ b (juArgs b.jump l)))).length := by simp
    refine Sl.mk hlen trivial (Array.getElem?_eq_some_iff.1 hA').1 hnc (by unfold maxLen at hcm; exact hcm) fun i hi => ?_
    have hi2 : i < fss.length := by simpa using hi
    have hcA : CellsAt w' bA (0 + i * 4) (css[i]'(by omega)) := by
      intro j hj
      have := hrow.cells (g := bA) rfl (i * 4 + j) _ (by
        have q := flatten_cells fss css hl hR i (by omega) j hj
        rw [show Rp.sz FnS = 4 from rfl] at q; exact q)
      rw [Addr.add_lit] at this
      rw [← this]; simp only [World.cell?, hA', hA, Nat.zero_add]
    refine ⟨css[i]'(by omega), ?_, hcA⟩
    by_cases e : i = fi
    · subst e
      rw [List.getElem_set_self]
      refine ⟨la, ln, lc, _, _, bc, e1, ⟨e2.1⟩, (e4.keep (fun k hk hlt => hag k hlt (by omega) (fun eq => by have := hJrow k eq; have := (hI k this.1 this.2).1; omega))).wide (fun _ _ _ => trivial), ?_⟩
      show Sl _ w' _ (x.f.blocks.set bi (bkJ b (juArgs b.jump l)))
      have hlb : bss.length = (x.f.blocks.set bi (bkJ b (juArgs b.jump l))).length := by simp [hbl]
      refine Sl.mk hlb trivial (Array.getElem?_eq_some_iff.1 hw').1 hnc' (by unfold maxLen at hcm'; exact hcm') fun q hq => ?_
      have hq2 : q < bss.length := by simpa [hbl] using hq
      have hcq : ∀ j (hj : j < (cs'[q]'(by omega)).length), cur[q * 14 + j]? = some ((cs'[q]'(by omega))[j]) := by
        intro j hj
        have := flatten_cells bss cs' hl' hR' q (by omega) j hj
        rw [← htake'] at this
        have e : cur[q * 14 + j]? = cur.toList[q * 14 + j]? := by simp
        rw [e]
        rw [List.getElem?_take] at this
        split at this
        · rw [show Rp.sz BkS = 14 from rfl] at this; exact this
        · cases this
      have hlq : (cs'[q]'(by omega)).length = 14 := Rp.len (hR' q hq2 (by omega))
      by_cases eq : q = bi
      · subst eq
        rw [List.getElem_set_self]
        refine ⟨(b.c (.slice sa sn sc) (.slice ja jn jc)).set 10 (.slice na nn nc), ⟨sa, sn, sc, na, nn, nc, rfl, ⟨⟨f2.1.1, f2.1.2, f2.1.3, f2.1.4, f2.1.5, f2.1.6⟩⟩, (f4.keep (fun k hk hlt => hag k hlt (Ne.symm (hI k hk.1 hk.2.1).2.2) hk.2.2)).wide (fun _ _ _ => trivial), hsl⟩, fun j hj => ?_⟩
        have hj14 : j < 14 := by simpa using hj
        have hz : q * 14 + 10 < cur.size := (Array.getElem?_eq_some_iff.1 (hcell 10 (by omega))).1
        simp only [World.cell?, hw', Nat.zero_add]
        show (cur.setIfInBounds (q * 14 + 10) (.slice na nn nc))[q * 14 + j]? = _
        rw [Array.getElem?_setIfInBounds, List.getElem_set]
        by_cases z : 10 = j
        · subst z; rw [if_pos rfl, if_pos hz, if_pos rfl]
        · rw [if_neg (by omega), if_neg z, hcell j hj14]
      · have hqb : (x.f.blocks.set bi (bkJ b (juArgs b.jump l)))[q] = bss[q].b := by
          rw [List.getElem_set_ne (Ne.symm eq)]
          have : (bss.map BkS.b)[q]? = some (bss[q].b) := by rw [List.getElem?_map, List.getElem?_eq_getElem hq2]; rfl
          rw [e6] at this; exact (List.getElem?_eq_some_iff.1 this).2
        rw [hqb]
        refine ⟨cs'[q]'(by omega), bks_bk (Rp.wide (fun _ _ _ => trivial) (Rp.keep (F := fun k => bss[q].lo ≤ k ∧ k < bss[q].hi) (fun k hk hlt => hag k hlt (Ne.symm (hG'R k ((bks_in (hR' q hq2 (by omega))) k hk.1 hk.2).1).2.2) (fun eo => ?_)) (bks_narrow (hR' q hq2 (by omega))))), fun j hj => ?_⟩
        · have := hJrow k eo; exact hdisB q hq2 eq k hk.1 hk.2 this
        · simp only [World.cell?, hw', Nat.zero_add]
          show (cur.setIfInBounds (bi * 14 + 10) (.slice na nn nc))[q * 14 + j]? = _
          rw [Array.getElem?_setIfInBounds, if_neg (by omega), hcq j hj]
    · rw [List.getElem_set_ne (Ne.symm e), List.getElem_map]
      refine fns_fn (Rp.wide (fun _ _ _ => trivial) (Rp.keep (F := fun k => fss[i].lo ≤ k ∧ k < fss[i].hi) (fun k hk hlt => hag k hlt (fun ek => ?_) (fun eo => ?_)) (fns_narrow (hR i hi2 (by omega)))))
      · exact hdis i hi2 e k hk.1 hk.2 (by subst ek; omega)
      · exact hdis i hi2 e k hk.1 hk.2 (hJ k eo)
end Go.Proofs.Ythackfblfkpddaa
