/- Slices that a call itself makes and appends to. -/
import Derived.Test.YtiikhfjdpaofdaaTypes
namespace Go.Proofs.Ytiikhfjdpaofdaa
open Go.RowKit
set_option linter.unusedSimpArgs false
set_option linter.unusedVariables false

/-- The slice type t, its elements e, of 'size' cells and 'bytes' bytes. -/
structure SlT (P : Program) (t e : TypeId) (size bytes : Nat) : Prop where
  ut : P.underlying t = some (.slice e)
  ex : ∃ i z, P.info? e = some i ∧ i.zero = some z ∧ i.size = size ∧ i.bytes = bytes ∧ z.cells.size = size
  pos : 0 < size
theorem SlT.mk' {P : Program} {t e : TypeId} {size bytes : Nat} {z : Value} (ut : P.underlying t = some (.slice e)) (h : (P.info? e).map (fun i => (i.zero, i.size, i.bytes)) = some (some z, size, bytes)) (hz : z.cells.size = size) (pos : 0 < size) : SlT P t e size bytes := by
  refine ⟨ut, ?_, pos⟩
  cases hi : P.info? e with
  | none => rw [hi] at h; cases h
  | some i => rw [hi] at h; simp at h; exact ⟨i, z, rfl, h.1, h.2.1, h.2.2, hz⟩

theorem run_app {P : Program} (w : World) (base : Nat) (t ty e : TypeId) (size bytes : Nat) (T : SlT P t e size bytes)
    (v : Value) (n : Nat) (xs : List Value) (hown : w.ownsRow base e size v n xs)
    (a : Addr) (m c : Nat) (news : List Value) (hl : news.length = m * size) (hnews : ∀ j u, news[j]? = some u → w.cell? (a.add j) = some u) (h1 : ∀ u ∈ news, u.oneCell' = true)
    (hm : 0 < m) (hbytes : (n + m) * bytes ≤ 140737488355328) (hnm : n + m ≤ 140737488355328) (hbase : base ≤ w.heap.size) :
    ∃ v' w', (Builtin.append_ #[t, t] ty #[v, .slice (some a) m c]).run P w = .ok v' w' ∧ w'.ownsRow base e size v' (n + m) (xs ++ news) ∧ w.grownBy w' v.ownBlock ∧
      (v'.ownBlock = v.ownBlock ∨ v'.ownBlock = some w.heap.size) := by
  obtain ⟨i, z, hi, hz, hsize, hby, hzs⟩ := T.ex
  have h63 : n + m ≤ maxLen := by unfold maxLen; omega
  obtain ⟨v', w', hr, h2, h3, h4⟩ := run_append_own (P := P) w base t ty e i z size bytes T.ut hi hz hsize hby hzs T.pos v n xs hown a m c news hl hnews h1 h63 hbytes hbase
  refine ⟨v', w', hr, h2, h3, ?_⟩
  subst hsize; subst hby
  rcases id hown.2 with ⟨rfl, rfl⟩ | ⟨g, cap, cur, rfl, hbg, hg, hnc, hcm, hcs, htake⟩
  · right
    have hr' := run_append_nil (P := P) w t ty e i z T.ut hi hz a m c news hl hnews hm (by omega) (by have hb := hbytes; simp only [Nat.zero_add] at hb; omega)
    rw [hr] at hr'; injection hr' with e1 e2; rw [e1]; rfl
  · by_cases hroom : n + m ≤ cap
    · left
      have hfit : n * i.size + news.length ≤ cur.size := by rw [hl, hcs, ← Nat.add_mul]; exact Nat.mul_le_mul_right _ hroom
      have hr' := run_append_room (P := P) w t ty e i T.ut hi g n cap cur hg a m c news hl hnews h1 hroom hfit
      rw [hr] at hr'; injection hr' with e1 e2; rw [e1]; rfl
    · right
      have holds : ∀ j u, xs[j]? = some u → w.cell? ((⟨g, 0, none⟩ : Addr).add j) = some u := hown.cells (g := g) rfl
      have hr' := run_append_grow (P := P) w t ty e i z T.ut hi hz ⟨g, 0, none⟩ n cap xs hown.1 holds a m c news hl hnews (by omega) (by omega) (growslice_fits (by omega) hbytes)
      rw [hr] at hr'; injection hr' with e1 e2; rw [e1]; rfl

/-- The slice value v, in a row of the call's own from block 'base' on, reads as xs; what its elements read lies in F or is new, and not in that row. -/
def Own {α : Type} [Rp α] (F : Nat → Prop) (base : Nat) (e : TypeId) (w : World) (v : Value) (xs : List α) : Prop :=
  ∃ (G : Nat → Prop) (css : List (List Value)), (∀ k, G k → k < w.heap.size ∧ (F k ∨ base ≤ k) ∧ v.ownBlock ≠ some k) ∧ css.length = xs.length ∧
    (∀ i (h : i < xs.length) (h' : i < css.length), Rp.R G w xs[i] css[i]) ∧ xs.length ≤ 140737488355328 ∧ w.ownsRow base e (Rp.sz α) v xs.length css.flatten

theorem Own.nil {α : Type} [Rp α] (F : Nat → Prop) (base : Nat) (e : TypeId) (w : World) : Own F base e w (.slice none 0 0) ([] : List α) :=
  ⟨fun _ => False, [], fun _ h => h.elim, rfl, (fun i h => by cases h), by simp, World.ownsRow_nil _ _ _ _⟩

theorem Agr.row {G : Nat → Prop} {w w' : World} {row : Option Nat} (hg : w.grownBy w' row) (h : ∀ k, G k → k < w.heap.size → row ≠ some k) : Agr G w w' :=
  fun k hG hk => hg.block k hk (fun e => h k hG hk e.symm)

theorem flatten_cells {α : Type} [Rp α] {G : Nat → Prop} {w : World} : ∀ (xs : List α) (css : List (List Value)), css.length = xs.length → (∀ i (h : i < xs.length) (h' : i < css.length), Rp.R G w xs[i] css[i]) →
    ∀ i (h' : i < css.length) j (hj : j < css[i].length), css.flatten[i * Rp.sz α + j]? = some css[i][j]
  | [], [], _, _, i, h', _, _ => by cases h'
  | x :: xs, c :: css, hl, hR, 0, h', j, hj => by
    simp only [List.flatten_cons, Nat.zero_mul, Nat.zero_add]
    rw [List.getElem?_append_left (by simpa using hj)]; exact List.getElem?_eq_getElem (by simpa using hj)
  | x :: xs, c :: css, hl, hR, i + 1, h', j, hj => by
    have hc : c.length = Rp.sz α := Rp.len (hR 0 (by simp) (by simp))
    simp only [List.flatten_cons]
    rw [List.getElem?_append_right (by rw [hc, Nat.add_mul]; omega)]
    have := flatten_cells xs css (by simpa using hl) (fun i h h' => hR (i + 1) (by simpa using h) (by simpa using h')) i (by simpa using h') j (by simpa using hj)
    rw [hc, show (i + 1) * Rp.sz α + j - Rp.sz α = i * Rp.sz α + j from by rw [Nat.add_mul]; omega]
    simpa using this

theorem Own.sl {α : Type} [Rp α] {F : Nat → Prop} {base : Nat} {e : TypeId} {w : World} {v : Value} {xs : List α} (h : Own F base e w v xs) : Sl (Fr F base) w v xs := by
  obtain ⟨G, css, hG, hl, hR, hn, hown⟩ := h
  rcases id hown.2 with ⟨rfl, h0⟩ | ⟨g, cap, cur, rfl, hbg, hg, hnc, hcm, hcs, htake⟩
  · obtain rfl : xs = [] := List.eq_nil_of_length_eq_zero h0
    exact Sl.nil _ _
  · have hlt : g < w.heap.size := (Array.getElem?_eq_some_iff.1 hg).1
    refine Sl.mk rfl (Or.inr hbg) hlt hnc (by unfold maxLen at hcm; exact hcm) fun i hi => ?_
    refine ⟨css[i]'(by omega), Rp.wide (fun k hk hGk => (hG k hGk).2.1) (hR i hi (by omega)), fun j hj => ?_⟩
    have := hown.cells (g := g) rfl (i * Rp.sz α + j) _ (flatten_cells xs css hl hR i (by omega) j hj)
    rw [Addr.add_lit] at this; simpa using this

theorem Own.keep {α : Type} [Rp α] {F : Nat → Prop} {base : Nat} {e : TypeId} {w w' : World} {v : Value} {xs : List α} (h : Own F base e w v xs) (g : Agr (Fr F base) w w') (hs : w.heap.size ≤ w'.heap.size) : Own F base e w' v xs := by
  obtain ⟨G, css, hG, hl, hR, hn, hown⟩ := h
  have ga : Agr G w w' := fun k hk hlt => g k (hG k hk).2.1 hlt
  refine ⟨G, css, fun k hk => ⟨by have := (hG k hk).1; omega, (hG k hk).2⟩, hl, fun i h h' => Rp.keep ga (hR i h h'), hn, hown.1, ?_⟩
  rcases id hown.2 with hx | ⟨q, cap, cur, hv, hbg, hg, hr⟩
  · exact .inl hx
  · exact .inr ⟨q, cap, cur, hv, hbg, by rw [g q (Or.inr hbg) (Array.getElem?_eq_some_iff.1 hg).1]; exact hg, hr⟩
theorem Own.mono {α : Type} [Rp α] {F : Nat → Prop} {base : Nat} {e : TypeId} {w w' : World} {v : Value} {xs : List α} (h : Own F base e w v xs) (g : Grow w w') : Own F base e w' v xs := h.keep (Agr.of_grow g) g.size
theorem Own.shape {α : Type} [Rp α] {F : Nat → Prop} {base : Nat} {e : TypeId} {w : World} {v : Value} {xs : List α} (h : Own F base e w v xs) : ∃ a cap, v = .slice a xs.length cap ∧ xs.length ≤ 140737488355328 := by
  obtain ⟨G, css, hG, hl, hR, hn, hown⟩ := h
  rcases id hown.2 with ⟨rfl, h0⟩ | ⟨g, cap, cur, rfl, _⟩
  · exact ⟨none, 0, by rw [h0], hn⟩
  · exact ⟨_, cap, rfl, hn⟩
theorem Own.row_lt {α : Type} [Rp α] {F : Nat → Prop} {base : Nat} {e : TypeId} {w : World} {v : Value} {xs : List α} (h : Own F base e w v xs) : ∀ k, v.ownBlock = some k → base ≤ k ∧ k < w.heap.size := by
  obtain ⟨G, css, hG, hl, hR, hn, hown⟩ := h; exact hown.lt

theorem Own.snoc {α : Type} [Rp α] {F : Nat → Prop} {base : Nat} {e : TypeId} {w w' : World} {v v' : Value} {xs ys : List α} {css ds : List (List Value)} {G Gy : Nat → Prop}
    (hG : ∀ k, G k → k < w.heap.size ∧ (F k ∨ base ≤ k) ∧ v.ownBlock ≠ some k) (hl : css.length = xs.length) (hR : ∀ i (h : i < xs.length) (h' : i < css.length), Rp.R G w xs[i] css[i])
    (hGy : ∀ k, Gy k → k < w.heap.size ∧ (F k ∨ base ≤ k) ∧ v.ownBlock ≠ some k) (hly : ds.length = ys.length) (hRy : ∀ i (h : i < ys.length) (h' : i < ds.length), Rp.R Gy w ys[i] ds[i])
    (hn : xs.length + ys.length ≤ 140737488355328) (ho : w'.ownsRow base e (Rp.sz α) v' (xs.length + ys.length) (css.flatten ++ ds.flatten)) (hg : w.grownBy w' v.ownBlock)
    (hv : v'.ownBlock = v.ownBlock ∨ v'.ownBlock = some w.heap.size) : Own F base e w' v' (xs ++ ys) := by
  refine ⟨fun k => G k ∨ Gy k, css ++ ds, ?_, by simp [hl, hly], ?_, by simpa using hn, by simpa using ho⟩
  · intro k hk
    have q : k < w.heap.size ∧ (F k ∨ base ≤ k) ∧ v.ownBlock ≠ some k := by rcases hk with hk | hk; exact hG k hk; exact hGy k hk
    refine ⟨Nat.lt_of_lt_of_le q.1 hg.size, q.2.1, ?_⟩
    rcases hv with hv | hv
    · rw [hv]; exact q.2.2
    · rw [hv]; intro e; injection e with e; omega
  · intro i h h'
    have a1 : Agr (fun k => G k ∨ Gy k) w w' := Agr.row hg (fun k hk _ => by rcases hk with hk | hk; exact (hG k hk).2.2; exact (hGy k hk).2.2)
    by_cases q : i < xs.length
    · rw [List.getElem_append_left q, List.getElem_append_left (by omega)]
      exact Rp.keep a1 (Rp.wide (fun k _ hk => Or.inl hk) (hR i q (by omega)))
    · rw [List.getElem_append_right (by omega), List.getElem_append_right (by omega)]
      simp only [hl]
      exact Rp.keep a1 (Rp.wide (fun k _ hk => Or.inr hk) (hRy _ (by simp at h; omega) (by simp at h; omega)))

/-- append(v, y): the row of the call's own has one more. -/
theorem wpList_app1 {α : Type} [Rp α] {P : Program} {ops : Array Oper} {rest : List Oper} {o : Oper} {a : Act} {w W0 : World} {x0 : Ext} {Q : Exit → Act → World → Prop} {s x : Operand} {t e : TypeId} {bytes : Nat}
    (T : SlT P t e (Rp.sz α) bytes) (hgd : o.guard = none) (ho : o.op = .call { callee := .builtin .append, args := #[s, x], argTypes := #[t, t] })
    {F : Nat → Prop} {base : Nat} {v : Value} {xs : List α} (hs : a.eval s = v) (hown : Own F base e (ext W0 x0) v xs) (hgr : Grow (ext W0 x0) w) (hb : W0.heap.size ≤ base) (hbs : base ≤ w.heap.size)
    {b off c : Nat} (hx : a.eval x = .slice (some ⟨b, off, none⟩) 1 c) {y : α} {cs : List Value} {Gy : Nat → Prop} (hR : Rp.R Gy w y cs) (hGy : ∀ k, Gy k → k < w.heap.size ∧ (F k ∨ base ≤ k) ∧ v.ownBlock ≠ some k)
    (hc : CellsAt w b off cs) (h1 : cs.all (·.oneCell') = true) (hlen : (xs.length + 1) * bytes ≤ 140737488355328) (hlen' : xs.length + 1 ≤ 140737488355328)
    (h : ∀ v' x', Own F base e (ext W0 x') v' (xs ++ [y]) → (ext W0 x0).heap.size ≤ (ext W0 x').heap.size → (∀ G : Nat → Prop, (∀ k, G k → k < (ext W0 x0).heap.size → v.ownBlock ≠ some k) → Agr G (ext W0 x0) (ext W0 x')) → wpList P ops Q rest (a.put o.dst v') (ext W0 x')) :
    wpList P ops Q (o :: rest) a w := by
  obtain ⟨G, css, hG, hl, hRs, hn, hor⟩ := hown.mono hgr
  have hcl : cs.length = Rp.sz α := Rp.len hR
  obtain ⟨v', w', hr, h2, h3, h4⟩ := run_app (P := P) w base t o.type e _ bytes T v _ _ hor ⟨b, off, none⟩ 1 c cs (by rw [hcl]; simp) (fun j u hu => by
    obtain ⟨hj, rfl⟩ := List.getElem?_eq_some_iff.1 hu
    rw [Addr.add_lit]; exact hc j hj) (fun u hu => (List.all_eq_true.1 h1) u hu) (by omega) hlen hlen' hbs
  have hrow : ∀ k, v.ownBlock = some k → base ≤ k ∧ k < (ext W0 x0).heap.size := hown.row_lt
  have hgw : Grow W0 w := (grow_ext W0 x0).trans hgr
  have hg0 : Grow W0 w' := ⟨h3.os.trans hgw.os, h3.tape.trans hgw.tape, h3.output.trans hgw.output, Nat.le_trans hgw.size h3.size, fun k hk => by
    rw [h3.block k (Nat.lt_of_lt_of_le hk hgw.size) (fun e => by have := hrow k e.symm; omega), hgw.block k hk]⟩
  obtain ⟨x', rfl⟩ := ext_of_grow hg0
  have hOwn : Own F base e (ext W0 x') v' (xs ++ [y]) := Own.snoc (ds := [cs]) (Gy := Gy) hG hl hRs hGy rfl (fun i h h' => match i, h with | 0, _ => hR) hlen' (by simpa using h2) h3 h4
  refine wpList_plain hgd fun _ hK => ?_
  unfold Oper.wp execOp
  simp only [ho, resolve, invoke, builtin, Sem.run_bind, Sem.run_pure, Result.andThen_ok, List.map_toArray, List.map_cons, List.map_nil, hs, hx, hr]
  refine hK _ _ (h v' x' hOwn (Nat.le_trans hgr.size h3.size) fun G' hG' k hk hlt => ?_)
  rw [h3.block k (Nat.lt_of_lt_of_le hlt hgr.size) (fun e => hG' k hk hlt e.symm), hgr.block k hlt]
end Go.Proofs.Ytiikhfjdpaofdaa
