/- Slices that a call itself makes and appends to. Slices appended to slices that a call itself makes. A slice copied into a row of the call's own: append([]T{}, xs...). -/
import Derived.Test.YthackfblfkpddaaTypes
import Derived.Deep.Upon
namespace Go.Proofs.Ythackfblfkpddaa
open Go.RowKit
set_option linter.unusedSimpArgs false
set_option linter.unusedVariables false

/-- The slice type t, its elements e, of 'size' cells and 'bytes' bytes. -/
structure SlT (P : Program) (t e : TypeId) (size bytes : Nat) : Prop where
  ut : P.underlying t = some (.slice e)
  ex : ∃ i z, P.info? e = some i ∧ i.zero = some z ∧ i.size = size ∧ i.bytes = bytes ∧ z.cells.size = size
  pos : 0 < size
theorem SlT.mk' {P : Program} {t e : TypeId} {size bytes : Nat} {z : Value} (ut : P.underlying t = some (.slice e)) (h : (P.info? e).map (fun i => (i.zero, i.size, i.bytes)) = some (some z, size, bytes)) (hz : z.cells.size = size) (pos : 0 < size) : SlT P t e size bytes := by
  refine ⟨ut, ?_, pos⟩
  cases hi : P.info? e with
  | none => rw [hi] at h; cases h
  | some i => rw [hi] at h; simp at h; exact ⟨i, z, rfl, h.1, h.2.1, h.2.2, hz⟩

theorem run_app {P : Program} (w : World) (base : Nat) (t ty e : TypeId) (size bytes : Nat) (T : SlT P t e size bytes)
    (v : Value) (n : Nat) (xs : List Value) (hown : w.ownsRow base e size v n xs)
    (a : Addr) (m c : Nat) (news : List Value) (hl : news.length = m * size) (hnews : ∀ j u, news[j]? = some u → w.cell? (a.add j) = some u) (h1 : ∀ u ∈ news, u.oneCell' = true)
    (hm : 0 < m) (hbytes : (n + m) * bytes ≤ 140737488355328) (hnm : n + m ≤ 140737488355328) (hbase : base ≤ w.heap.size) :
    ∃ v' w', (Builtin.append_ #[t, t] ty #[v, .slice (some a) m c]).run P w = .ok v' w' ∧ w'.ownsRow base e size v' (n + m) (xs ++ news) ∧ w.grownBy w' v.ownBlock ∧
      (v'.ownBlock = v.ownBlock ∨ v'.ownBlock = some w.heap.size) := by
  obtain ⟨i, z, hi, hz, hsize, hby, hzs⟩ := T.ex
  have h63 : n + m ≤ maxLen := by unfold maxLen; omega
  obtain ⟨v', w', hr, h2, h3, h4⟩ := run_append_own (P := P) w base t ty e i z size bytes T.ut hi hz hsize hby hzs T.pos v n xs hown a m c news hl hnews h1 h63 hbytes hbase
  refine ⟨v', w', hr, h2, h3, ?_⟩
  subst hsize; subst hby
  rcases id hown.2 with ⟨rfl, rfl⟩ | ⟨g, cap, cur, rfl, hbg, hg, hnc, hcm, hcs, htake⟩
  · right
    have hr' := run_append_nil (P := P) w t ty e i z T.ut hi hz a m c news hl hnews hm (by omega) (by have hb := hbytes; simp only [Nat.zero_add] at hb; omega)
    rw [hr] at hr'; injection hr' with e1 e2; rw [e1]; rfl
  · by_cases hroom : n + m ≤ cap
    · left
      have hfit : n * i.size + news.length ≤ cur.size := by rw [hl, hcs, ← Nat.add_mul]; exact Nat.mul_le_mul_right _ hroom
      have hr' := run_append_room (P := P) w t ty e i T.ut hi g n cap cur hg a m c news hl hnews h1 hroom hfit
      rw [hr] at hr'; injection hr' with e1 e2; rw [e1]; rfl
    · right
      have holds : ∀ j u, xs[j]? = some u → w.cell? ((⟨g, 0, none⟩ : Addr).add j) = some u := hown.cells (g := g) rfl
      have hr' := run_append_grow (P := P) w t ty e i z T.ut hi hz ⟨g, 0, none⟩ n cap xs hown.1 holds a m c news hl hnews (by omega) (by omega) (growslice_fits (by omega) hbytes)
      rw [hr] at hr'; injection hr' with e1 e2; rw [e1]; rfl

/-- The slice value v, in a row of the call's own from block 'base' on, reads as xs; what its elements read lies in F or is new, and not in that row. -/
def Own {α : Type} [Rp α] (F : Nat → Prop) (base : Nat) (e : TypeId) (w : World) (v : Value) (xs : List α) : Prop :=
  ∃ (G : Nat → Prop) (css : List (List Value)), (∀ k, G k → k < w.heap.size ∧ (F k ∨ base ≤ k) ∧ v.ownBlock ≠ some k) ∧ css.length = xs.length ∧
    (∀ i (h : i < xs.length) (h' : i < css.length), Rp.R G w xs[i] css[i]) ∧ xs.length ≤ 140737488355328 ∧ w.ownsRow base e (Rp.sz α) v xs.length css.flatten

theorem Own.nil {α : Type} [Rp α] (F : Nat → Prop) (base : Nat) (e : TypeId) (w : World) : Own F base e w (.slice none 0 0) ([] : List α) :=
  ⟨fun _ => False, [], fun _ h => h.elim, rfl, (fun i h => by cases h), by simp, World.ownsRow_nil _ _ _ _⟩

theorem Agr.row {G : Nat → Prop} {w w' : World} {row : Option Nat} (hg : w.grownBy w' row) (h : ∀ k, G k → k < w.heap.size → row ≠ some k) : Agr G w w' :=
  fun k hG hk => hg.block k hk (fun e => h k hG hk e.symm)

theorem flatten_cells {α : Type} [Rp α] {G : Nat → Prop} {w : World} : ∀ (xs : List α) (css : List (List Value)), css.length = xs.length → (∀ i (h : i < xs.length) (h' : i < css.length), Rp.R G w xs[i] css[i]) →
    ∀ i (h' : i < css.length) j (hj : j < css[i].length), css.flatten[i * Rp.sz α + j]? = some css[i][j]
  | [], [], _, _, i, h', _, _ => by cases h'
  | x :: xs, c :: css, hl, hR, 0, h', j, hj => by
    simp only [List.flatten_cons, Nat.zero_mul, Nat.zero_add]
    rw [List.getElem?_append_left (by simpa using hj)]; exact List.getElem?_eq_getElem (by simpa using hj)
  | x :: xs, c :: css, hl, hR, i + 1, h', j, hj => by
    have hc : c.length = Rp.sz α := Rp.len (hR 0 (by simp) (by simp))
    simp only [List.flatten_cons]
    rw [List.getElem?_append_right (by rw [hc, Nat.add_mul]; omega)]
    have := flatten_cells xs css (by simpa using hl) (fun i h h' => hR (i + 1) (by simpa using h) (by simpa using h')) i (by simpa using h') j (by simpa using hj)
    rw [hc, show (i + 1) * Rp.sz α + j - Rp.sz α = i * Rp.sz α + j from by rw [Nat.add_mul]; omega]
    simpa using this

theorem Own.sl {α : Type} [Rp α] {F : Nat → Prop} {base : Nat} {e : TypeId} {w : World} {v : Value} {xs : List α} (h : Own F base e w v xs) : Sl (Fr F base) w v xs := by
  obtain ⟨G, css, hG, hl, hR, hn, hown⟩ := h
  rcases id hown.2 with ⟨rfl, h0⟩ | ⟨g, cap, cur, rfl, hbg, hg, hnc, hcm, hcs, htake⟩
  · obtain rfl : xs = [] := List.eq_nil_of_length_eq_zero h0
    exact Sl.nil _ _
  · have hlt : g < w.heap.size := (Array.getElem?_eq_some_iff.1 hg).1
    refine Sl.mk rfl (Or.inr hbg) hlt hnc (by unfold maxLen at hcm; exact hcm) fun i hi => ?_
    refine ⟨css[i]'(by omega), Rp.wide (fun k hk hGk => (hG k hGk).2.1) (hR i hi (by omega)), fun j hj => ?_⟩
    have := hown.cells (g := g) rfl (i * Rp.sz α + j) _ (flatten_cells xs css hl hR i (by omega) j hj)
    rw [Addr.add_lit] at this; simpa using this

theorem Own.keep {α : Type} [Rp α] {F : Nat → Prop} {base : Nat} {e : TypeId} {w w' : World} {v : Value} {xs : List α} (h : Own F base e w v xs) (g : Agr (Fr F base) w w') (hs : w.heap.size ≤ w'.heap.size) : Own F base e w' v xs := by
  obtain ⟨G, css, hG, hl, hR, hn, hown⟩ := h
  have ga : Agr G w w' := fun k hk hlt => g k (hG k hk).2.1 hlt
  refine ⟨G, css, fun k hk => ⟨by have := (hG k hk).1; omega, (hG k hk).2⟩, hl, fun i h h' => Rp.keep ga (hR i h h'), hn, hown.1, ?_⟩
  rcases id hown.2 with hx | ⟨q, cap, cur, hv, hbg, hg, hr⟩
  · exact .inl hx
  · exact .inr ⟨q, cap, cur, hv, hbg, by rw [g q (Or.inr hbg) (Array.getElem?_eq_some_iff.1 hg).1]; exact hg, hr⟩
theorem Own.mono {α : Type} [Rp α] {F : Nat → Prop} {base : Nat} {e : TypeId} {w w' : World} {v : Value} {xs : List α} (h : Own F base e w v xs) (g : Grow w w') : Own F base e w' v xs := h.keep (Agr.of_grow g) g.size
theorem Own.shape {α : Type} [Rp α] {F : Nat → Prop} {base : Nat} {e : TypeId} {w : World} {v : Value} {xs : List α} (h : Own F base e w v xs) : ∃ a cap, v = .slice a xs.length cap ∧ xs.length ≤ 140737488355328 := by
  obtain ⟨G, css, hG, hl, hR, hn, hown⟩ := h
  rcases id hown.2 with ⟨rfl, h0⟩ | ⟨g, cap, cur, rfl, _⟩
  · exact ⟨none, 0, by rw [h0], hn⟩
  · exact ⟨_, cap, rfl, hn⟩
theorem Own.row_lt {α : Type} [Rp α] {F : Nat → Prop} {base : Nat} {e : TypeId} {w : World} {v : Value} {xs : List α} (h : Own F base e w v xs) : ∀ k, v.ownBlock = some k → base ≤ k ∧ k < w.heap.size := by
  obtain ⟨G, css, hG, hl, hR, hn, hown⟩ := h; exact hown.lt

theorem Own.snoc {α : Type} [Rp α] {F : Nat → Prop} {base : Nat} {e : TypeId} {w w' : World} {v v' : Value} {xs ys : List α} {css ds : List (List Value)} {G Gy : Nat → Prop}
    (hG : ∀ k, G k → k < w.heap.size ∧ (F k ∨ base ≤ k) ∧ v.ownBlock ≠ some k) (hl : css.length = xs.length) (hR : ∀ i (h : i < xs.length) (h' : i < css.length), Rp.R G w xs[i] css[i])
    (hGy : ∀ k, Gy k → k < w.heap.size ∧ (F k ∨ base ≤ k) ∧ v.ownBlock ≠ some k) (hly : ds.length = ys.length) (hRy : ∀ i (h : i < ys.length) (h' : i < ds.length), Rp.R Gy w ys[i] ds[i])
    (hn : xs.length + ys.length ≤ 140737488355328) (ho : w'.ownsRow base e (Rp.sz α) v' (xs.length + ys.length) (css.flatten ++ ds.flatten)) (hg : w.grownBy w' v.ownBlock)
    (hv : v'.ownBlock = v.ownBlock ∨ v'.ownBlock = some w.heap.size) : Own F base e w' v' (xs ++ ys) := by
  refine ⟨fun k => G k ∨ Gy k, css ++ ds, ?_, by simp [hl, hly], ?_, by simpa using hn, by simpa using ho⟩
  · intro k hk
    have q : k < w.heap.size ∧ (F k ∨ base ≤ k) ∧ v.ownBlock ≠ some k := by rcases hk with hk | hk; exact hG k hk; exact hGy k hk
    refine ⟨Nat.lt_of_lt_of_le q.1 hg.size, q.2.1, ?_⟩
    rcases hv with hv | hv
    · rw [hv]; exact q.2.2
    · rw [hv]; intro e; injection e with e; omega
  · intro i h h'
    have a1 : Agr (fun k => G k ∨ Gy k) w w' := Agr.row hg (fun k hk _ => by rcases hk with hk | hk; exact (hG k hk).2.2; exact (hGy k hk).2.2)
    by_cases q : i < xs.length
    · rw [List.getElem_append_left q, List.getElem_append_left (by omega)]
      exact Rp.keep a1 (Rp.wide (fun k _ hk => Or.inl hk) (hR i q (by omega)))
    · rw [List.getElem_append_right (by omega), List.getElem_append_right (by omega)]
      simp only [hl]
      exact Rp.keep a1 (Rp.wide (fun k _ hk => Or.inr hk) (hRy _ (by simp at h; omega) (by simp at h; omega)))

/-- append(v, y): the row of the call's own has one more. -/
theorem wpList_app1 {α : Type} [Rp α] {P : Program} {ops : Array Oper} {rest : List Oper} {o : Oper} {a : Act} {w W0 : World} {x0 : Ext} {Q : Exit → Act → World → Prop} {s x : Operand} {t e : TypeId} {bytes : Nat}
    (T : SlT P t e (Rp.sz α) bytes) (hgd : o.guard = none) (ho : o.op = .call { callee := .builtin .append, args := #[s, x], argTypes := #[t, t] })
    {F : Nat → Prop} {base : Nat} {v : Value} {xs : List α} (hs : a.eval s = v) (hown : Own F base e (ext W0 x0) v xs) (hgr : Grow (ext W0 x0) w) (hb : W0.heap.size ≤ base) (hbs : base ≤ w.heap.size)
    {b off c : Nat} (hx : a.eval x = .slice (some ⟨b, off, none⟩) 1 c) {y : α} {cs : List Value} {Gy : Nat → Prop} (hR : Rp.R Gy w y cs) (hGy : ∀ k, Gy k → k < w.heap.size ∧ (F k ∨ base ≤ k) ∧ v.ownBlock ≠ some k)
    (hc : CellsAt w b off cs) (h1 : cs.all (·.oneCell') = true) (hlen : (xs.length + 1) * bytes ≤ 140737488355328) (hlen' : xs.length + 1 ≤ 140737488355328)
    (h : ∀ v' x', Own F base e (ext W0 x') v' (xs ++ [y]) → (ext W0 x0).heap.size ≤ (ext W0 x').heap.size → (∀ G : Nat → Prop, (∀ k, G k → k < (ext W0 x0).heap.size → v.ownBlock ≠ some k) → Agr G (ext W0 x0) (ext W0 x')) → wpList P ops Q rest (a.put o.dst v') (ext W0 x')) :
    wpList P ops Q (o :: rest) a w := by
  obtain ⟨G, css, hG, hl, hRs, hn, hor⟩ := hown.mono hgr
  have hcl : cs.length = Rp.sz α := Rp.len hR
  obtain ⟨v', w', hr, h2, h3, h4⟩ := run_app (P := P) w base t o.type e _ bytes T v _ _ hor ⟨b, off, none⟩ 1 c cs (by rw [hcl]; simp) (fun j u hu => by
    obtain ⟨hj, rfl⟩ := List.getElem?_eq_some_iff.1 hu
    rw [Addr.add_lit]; exact hc j hj) (fun u hu => (List.all_eq_true.1 h1) u hu) (by omega) hlen hlen' hbs
  have hrow : ∀ k, v.ownBlock = some k → base ≤ k ∧ k < (ext W0 x0).heap.size := hown.row_lt
  have hgw : Grow W0 w := (grow_ext W0 x0).trans hgr
  have hg0 : Grow W0 w' := ⟨h3.os.trans hgw.os, h3.tape.trans hgw.tape, h3.output.trans hgw.output, Nat.le_trans hgw.size h3.size, fun k hk => by
    rw [h3.block k (Nat.lt_of_lt_of_le hk hgw.size) (fun e => by have := hrow k e.symm; omega), hgw.block k hk]⟩
  obtain ⟨x', rfl⟩ := ext_of_grow hg0
  have hOwn : Own F base e (ext W0 x') v' (xs ++ [y]) := Own.snoc (ds := [cs]) (Gy := Gy) hG hl hRs hGy rfl (fun i h h' => match i, h with | 0, _ => hR) hlen' (by simpa using h2) h3 h4
  refine wpList_plain hgd fun _ hK => ?_
  unfold Oper.wp execOp
  simp only [ho, resolve, invoke, builtin, Sem.run_bind, Sem.run_pure, Result.andThen_ok, List.map_toArray, List.map_cons, List.map_nil, hs, hx, hr]
  refine hK _ _ (h v' x' hOwn (Nat.le_trans hgr.size h3.size) fun G' hG' k hk hlt => ?_)
  rw [h3.block k (Nat.lt_of_lt_of_le hlt hgr.size) (fun e => hG' k hk hlt e.symm), hgr.block k hlt]
/-- A slice's elements, cell by cell. -/
theorem Sl.rows {α : Type} [Rp α] {F : Nat → Prop} {w : World} {a : Option Addr} {m c : Nat} {ys : List α} (h : Sl F w (.slice a m c) ys) (hm : 0 < m) :
    ∃ b off, ∃ css : List (List Value), a = some ⟨b, off, none⟩ ∧ css.length = ys.length ∧ (∀ i (h : i < ys.length) (h' : i < css.length), Rp.R F w ys[i] css[i]) ∧
      (∀ j u, css.flatten[j]? = some u → w.cell? ((⟨b, off, none⟩ : Addr).add j) = some u) ∧ css.flatten.length = m * Rp.sz α := by
  have hl := h.len
  subst hl
  obtain ⟨a', cap', hv, h1, h2, h3, h⟩ := h
  injection hv with e1 e2 e3; subst e1 e3
  obtain ⟨b, off, ha, hF, hlt, cs0, _⟩ := h 0 hm
  subst ha
  have key : ∀ (n : Nat), n ≤ ys.length → ∃ css : List (List Value), css.length = n ∧ (∀ i (h : i < ys.length) (h' : i < css.length), Rp.R F w ys[i] css[i] ∧ CellsAt w b (off + i * Rp.sz α) css[i]) := by
    intro n
    induction n with
    | zero => intro _; exact ⟨[], rfl, fun i h h' => by cases h'⟩
    | succ n ih =>
      intro hn
      obtain ⟨css, hl, hc⟩ := ih (by omega)
      obtain ⟨b', off', hb, _, _, cs, hR, hcs⟩ := h n (by omega)
      simp only [Option.some.injEq, Addr.mk.injEq, and_true] at hb
      obtain ⟨rfl, rfl⟩ := hb
      refine ⟨css ++ [cs], by simp [hl], fun i h h' => ?_⟩
      by_cases q : i < css.length
      · rw [List.getElem_append_left q]; exact hc i h q
      · obtain rfl : i = n := by simp at h'; omega
        rw [List.getElem_append_right (by omega)]
        simp only [hl, Nat.sub_self, List.getElem_cons_zero]
        exact ⟨hR, hcs⟩
  obtain ⟨css, hl, hc⟩ := key ys.length (Nat.le_refl _)
  have hlen : css.flatten.length = ys.length * Rp.sz α := by
    have hr : ∀ x ∈ css, x.length = Rp.sz α := by
      intro x hx
      obtain ⟨i, hi, rfl⟩ := List.getElem_of_mem hx
      exact Rp.len (hc i (by omega) hi).1
    rw [List.length_flatten, ← hl]
    clear hl hc key
    induction css with
    | nil => simp
    | cons x l ih => simp [hr x (by simp), ih (fun y hy => hr y (by simp [hy])), Nat.add_mul]; omega
  refine ⟨b, off, css, rfl, hl, fun i h h' => (hc i h h').1, fun j u hu => ?_, hlen⟩
  have hj : j < css.flatten.length := (List.getElem?_eq_some_iff.1 hu).1
  have hsz : 0 < Rp.sz α := by
    rcases Nat.eq_zero_or_pos (Rp.sz α) with q | q
    · rw [hlen, q] at hj; simp at hj
    · exact q
  have hi : j / Rp.sz α < css.length := by rw [hl]; exact (Nat.div_lt_iff_lt_mul hsz).2 (by rw [hlen] at hj; exact hj)
  have hk : j % Rp.sz α < css[j / Rp.sz α].length := by rw [Rp.len (hc _ (by omega) hi).1]; exact Nat.mod_lt _ hsz
  have e := flatten_cells ys css hl (fun i h h' => (hc i h h').1) (j / Rp.sz α) hi (j % Rp.sz α) hk
  have ej : j / Rp.sz α * Rp.sz α + j % Rp.sz α = j := by rw [Nat.mul_comm]; exact Nat.div_add_mod j (Rp.sz α)
  rw [ej, hu] at e
  injection e with e
  rw [e, Addr.add_lit]
  have := (hc (j / Rp.sz α) (by omega) hi).2 (j % Rp.sz α) hk
  rw [← this]; congr 2; omega

/-- append(v, ys...). -/
theorem run_appS {P : Program} {α : Type} [Rp α] {t ty e : TypeId} {bytes : Nat} (T : SlT P t e (Rp.sz α) bytes) (hone : ∀ (G : Nat → Prop) (w : World) (x : α) cs, Rp.R G w x cs → ∀ u ∈ cs, u.oneCell' = true)
    {F Fy : Nat → Prop} {base : Nat} {w : World} {v : Value} {xs ys : List α} (hown : Own F base e w v xs) (hb : base ≤ w.heap.size) {ax : Option Addr} {m c : Nat} (hs : Sl Fy w (.slice ax m c) ys)
    {Gy : Nat → Prop} (hRG : ∀ (x : α) cs, Rp.R Fy w x cs → Rp.R Gy w x cs) (hGy : ∀ k, Gy k → k < w.heap.size ∧ (F k ∨ base ≤ k) ∧ v.ownBlock ≠ some k) (hbytes : (xs.length + m) * bytes ≤ 140737488355328) (hnm : xs.length + m ≤ 140737488355328) :
    ∃ v' w', (Builtin.append_ #[t, t] ty #[v, .slice ax m c]).run P w = .ok v' w' ∧ Own F base e w' v' (xs ++ ys) ∧ w.grownBy w' v.ownBlock := by
  have hlen := hs.len
  by_cases hm : 0 < m
  · obtain ⟨b, off, css, rfl, hl, hR, hc, hfl⟩ := hs.rows hm
    obtain ⟨G, ds, hG, hld, hRs, hn, hor⟩ := id hown
    obtain ⟨v', w', hr, h2, h3, h4⟩ := run_app (P := P) w base t ty e _ bytes T v _ _ hor ⟨b, off, none⟩ m c css.flatten hfl hc (fun u hu => by
      obtain ⟨cs, hcs, hu⟩ := List.mem_flatten.1 hu
      obtain ⟨i, hi, rfl⟩ := List.getElem_of_mem hcs
      exact hone _ _ _ _ (hR i (by omega) hi) u hu) hm hbytes hnm hb
    refine ⟨v', w', hr, ?_, h3⟩
    exact Own.snoc (Gy := Gy) hG hld hRs hGy hl (fun i h h' => hRG _ _ (hR i h h')) (by omega) (by rw [← hlen]; exact h2) h3 h4
  · obtain rfl : m = 0 := by omega
    obtain rfl : ys = [] := List.eq_nil_of_length_eq_zero hlen.symm
    obtain ⟨a0, cap0, rfl, hle⟩ := hown.shape
    have hle' : xs.length ≤ cap0 := by
      obtain ⟨_, n0, _, hv, _, _, q, _⟩ := hown.sl.open
      injection hv with _ e2 e3; omega
    obtain ⟨i, z, hi, hz, hsize, hby, hzs⟩ := T.ex
    refine ⟨_, w, run_append_nothing (P := P) w t t ty e i T.ut hi a0 xs.length cap0 hle' (.slice ax 0 c) ⟨.inl ⟨e, T.ut⟩, fun w' => ?_, ?_, ?_, by simp, fun u hu => by cases hu⟩, by simpa using hown, ⟨rfl, rfl, rfl, Nat.le_refl _, fun _ _ _ => rfl⟩⟩
    · simp [Builtin.lenOf]
    · cases ax <;> simp [Builtin.firstCells, loadCells, loadCellsFrom]
    · cases ax <;> simp [Builtin.firstCells, loadCells, loadCellsFrom]

theorem Own.zero {α : Type} [Rp α] {F : Nat → Prop} {base : Nat} {e : TypeId} {w : World} {g : Nat} (hg : w.heap[g]? = some (.cells #[] e)) (hb : base ≤ g) : Own F base e w (.slice (some ⟨g, 0, none⟩) 0 0) ([] : List α) :=
  ⟨fun _ => False, [], fun _ h => h.elim, rfl, (fun i h => by cases h), by simp, by
    refine ⟨by simp, .inr ⟨g, 0, #[], rfl, hb, hg, Nat.le_refl _, by unfold maxLen; omega, by simp, by simp⟩⟩⟩

theorem grown_grow {W w w' : World} {row : Option Nat} (hW : Grow W w) (h : w.grownBy w' row) (hr : ∀ k, row = some k → W.heap.size ≤ k) : Grow W w' :=
  ⟨h.os.trans hW.os, h.tape.trans hW.tape, h.output.trans hW.output, Nat.le_trans hW.size h.size, fun k hk => by
    rw [h.block k (Nat.lt_of_lt_of_le hk hW.size) (fun e => by have := hr k e.symm; omega), hW.block k hk]⟩

/-- append(v, ys...), as a step. -/
theorem wpList_appS {P : Program} {α : Type} [Rp α] {ops : Array Oper} {rest : List Oper} {o : Oper} {a : Act} {W w : World} {Q : Exit → Act → World → Prop} {s x : Operand} {t e : TypeId} {bytes : Nat}
    (T : SlT P t e (Rp.sz α) bytes) (hone : ∀ (G : Nat → Prop) (w : World) (x : α) cs, Rp.R G w x cs → ∀ u ∈ cs, u.oneCell' = true) (hgd : o.guard = none)
    (ho : o.op = .call { callee := .builtin .append, args := #[s, x], argTypes := #[t, t] }) {F Fy : Nat → Prop} {base : Nat} {v : Value} {xs ys : List α} (hs : a.eval s = v) {ax : Option Addr} {m c : Nat} (hx : a.eval x = .slice ax m c)
    (hW : Grow W w) (hWb : W.heap.size ≤ base) (hb : base ≤ w.heap.size) (hown : Own F base e w v xs) (hsl : Sl Fy w (.slice ax m c) ys) {Gy : Nat → Prop} (hRG : ∀ (x : α) cs, Rp.R Fy w x cs → Rp.R Gy w x cs)
    (hGy : ∀ k, Gy k → k < w.heap.size ∧ (F k ∨ base ≤ k) ∧ v.ownBlock ≠ some k) (hbytes : (xs.length + m) * bytes ≤ 140737488355328) (hnm : xs.length + m ≤ 140737488355328)
    (h : ∀ v' w', Grow W w' → w.grownBy w' v.ownBlock → Own F base e w' v' (xs ++ ys) → wpList P ops Q rest (a.put o.dst v') w') : wpList P ops Q (o :: rest) a w := by
  obtain ⟨v', w', hr, hO, hg⟩ := run_appS (P := P) (ty := o.type) T hone hown hb hsl hRG hGy hbytes hnm
  refine wpList_plain hgd fun _ hK => ?_
  unfold Oper.wp execOp
  simp only [ho, resolve, invoke, builtin, Sem.run_bind, Sem.run_pure, Result.andThen_ok, List.map_toArray, List.map_cons, List.map_nil, hs, hx, hr]
  exact hK _ _ (h v' w' (grown_grow hW hg fun k hk => by have := hown.row_lt k hk; omega) hg hO)
theorem hp_alloc {W : World} {o : Obj} {b : Nat} [h : LtW b W] : (W.alloc o).heap[b]? = W.heap[b]? := Below.heap_alloc _ _ _ h.lt
theorem hp_at {W : World} {o : Obj} {b : Nat} [h : EqW b W] : (W.alloc o).heap[b]? = some o := by have e := h.eq; subst e; exact Array.getElem?_push_size
theorem hp_ext {W : World} {x : Ext} {b : Nat} [h : LtW b W] : (ext W x).heap[b]? = W.heap[b]? := (grow_ext W x).block b h.lt
theorem hp_drew {W : World} {b : Nat} : W.drew.heap[b]? = W.heap[b]? := rfl
/-- The cells C begin with the elements xs. -/
def Rows8 {α : Type} [Rp α] (F : Nat → Prop) (w : World) (C : Array Value) (xs : List α) : Prop :=
  ∀ i (h : i < xs.length), ∃ cs, Rp.R F w xs[i] cs ∧ ∀ j (hj : j < cs.length), C[i * Rp.sz α + j]? = some cs[j]

theorem Rows8.sl {α : Type} [Rp α] {F : Nat → Prop} {w w' : World} {C : Array Value} {xs : List α} (h : Rows8 F w C xs) {g cap : Nat} {e : TypeId} (hg : w'.heap[g]? = some (.cells C e)) (ha : Agr F w w') (h1 : xs.length ≤ cap) (h2 : cap ≤ 9223372036854775807) :
    Sl (fun k => F k ∨ k = g) w' (.slice (some ⟨g, 0, none⟩) xs.length cap) xs := by
  refine ⟨_, cap, rfl, h1, h2, (fun h => by cases h), fun i hi => ⟨g, 0, rfl, Or.inr rfl, (Array.getElem?_eq_some_iff.1 hg).1, ?_⟩⟩
  obtain ⟨cs, hR, hc⟩ := h i hi
  refine ⟨cs, Rp.wide (fun k _ hk => Or.inl hk) (Rp.keep ha hR), fun j hj => ?_⟩
  simp only [World.cell?, hg, Nat.zero_add]
  rw [hc j hj]; rfl

theorem wpList_copy {P : Program} {α : Type} [Rp α] {ops : Array Oper} {rest : List Oper} {o : Oper} {a : Act} {w : World} {Q : Exit → Act → World → Prop} {s x : Operand} {t e : TypeId} {bytes : Nat}
    (T : SlT P t e (Rp.sz α) bytes) (hgd : o.guard = none) (ho : o.op = .call { callee := .builtin .append, args := #[s, x], argTypes := #[t, t] })
    {g : Nat} (hs : a.eval s = .slice (some ⟨g, 0, none⟩) 0 0) {ax : Option Addr} {m c : Nat} (hx : a.eval x = .slice ax m c) {F : Nat → Prop} {ys : List α} (hsl : Sl F w (.slice ax m c) ys) (hm : 0 < m)
    (hbytes : m * bytes ≤ 140737488355328) (hnm : m ≤ 140737488355328)
    (h : ∀ C cap, m ≤ cap → cap ≤ 9223372036854775807 → Rows8 F w C ys → wpList P ops Q rest (a.put o.dst (.slice (some ⟨w.heap.size, 0, none⟩) m cap)) (w.drew.alloc (.cells C e))) : wpList P ops Q (o :: rest) a w := by
  obtain ⟨b, off, css, rfl, hl, hR, hc, hfl⟩ := hsl.rows hm
  obtain ⟨i, z, hi, hz, hsize, hby, hzs⟩ := T.ex
  subst hby
  have hr := run_append_grow (P := P) w t o.type e i z T.ut hi hz ⟨g, 0, none⟩ 0 0 [] (by simp) (fun j v hv => by simp at hv) ⟨b, off, none⟩ m c css.flatten (by rw [hsize]; exact hfl) hc (by omega) (by omega) (growslice_fits (by omega) (by simpa using hbytes))
  have h1 := grownCap_ge w (0 + m) 0 e
  have h2 := grownCap_le_maxLen w (0 + m) 0 e (by unfold maxLen; omega)
  have hn0 : 0 + m = m := Nat.zero_add m
  rw [hn0] at hr h1 h2
  refine wpList_plain hgd fun _ hK => ?_
  unfold Oper.wp execOp
  simp only [ho, resolve, invoke, builtin, Sem.run_bind, Sem.run_pure, Result.andThen_ok, List.map_toArray, List.map_cons, List.map_nil, hs, hx, hr]
  refine hK _ _ (h _ _ h1 (by unfold maxLen at h2; exact h2) fun k hk => ?_)
  have hlen := hsl.len
  refine ⟨css[k]'(by omega), hR k hk (by omega), fun j hj => ?_⟩
  have e1 := flatten_cells ys css hl (fun i h h' => hR i h h') k (by omega) j hj
  have e2 : k * Rp.sz α + j < css.flatten.length := (List.getElem?_eq_some_iff.1 e1).1
  rw [Array.getElem?_append_left (by simpa using e2)]
  simpa using e1
theorem Rows8.flat {α : Type} [Rp α] {F : Nat → Prop} {w : World} {xs : List α} (css : List (List Value)) (hl : css.length = xs.length) (hR : ∀ i (h : i < xs.length) (h' : i < css.length), Rp.R F w xs[i] css[i]) {C : Array Value} (hC : C = css.flatten.toArray) : Rows8 F w C xs := by
  subst hC
  intro i hi
  refine ⟨css[i]'(by omega), hR i hi (by omega), fun j hj => ?_⟩
  have := flatten_cells xs css hl hR i (by omega) j hj
  simpa using this
/-- One cell of one element set. -/
theorem Rows8.put {α : Type} [Rp α] {F : Nat → Prop} {w : World} {C : Array Value} {xs : List α} (h : Rows8 F w C xs) (k : Nat) (hk : k < xs.length) (j : Nat) (hj : j < Rp.sz α) (u : Value) {x' : α} (hx : ∀ cs, Rp.R F w xs[k] cs → Rp.R F w x' (cs.set j u)) :
    Rows8 F w (C.setIfInBounds (k * Rp.sz α + j) u) (xs.set k x') := by
  intro i hi
  have hi' : i < xs.length := by simpa using hi
  obtain ⟨cs, hR, hc⟩ := h i hi'
  have hlen := Rp.len hR
  by_cases e : i = k
  · subst e
    rw [List.getElem_set_self]
    refine ⟨cs.set j u, hx cs hR, fun q hq => ?_⟩
    have hq' : q < cs.length := by simpa using hq
    have hz : i * Rp.sz α + j < C.size := (Array.getElem?_eq_some_iff.1 (hc j (by omega))).1
    rw [Array.getElem?_setIfInBounds, List.getElem_set]
    by_cases z : j = q
    · subst z; rw [if_pos rfl, if_pos hz, if_pos rfl]
    · rw [if_neg (by omega), if_neg z, hc q hq']
  · rw [List.getElem_set_ne (Ne.symm e)]
    refine ⟨cs, hR, fun q hq => ?_⟩
    rw [Array.getElem?_setIfInBounds, if_neg, hc q hq]
    intro z
    have h1 : k * Rp.sz α + j = i * Rp.sz α + q := z
    have h2 : (k * Rp.sz α + j) / Rp.sz α = k := by
      rw [Nat.mul_comm, Nat.mul_add_div (by omega), Nat.div_eq_of_lt hj, Nat.add_zero]
    have h3 : (i * Rp.sz α + q) / Rp.sz α = i := by
      rw [Nat.mul_comm, Nat.mul_add_div (by omega), Nat.div_eq_of_lt (by omega), Nat.add_zero]
    exact e (by rw [← h3, ← h1, h2])
/-- append(v, ys...), where v is full: all of it in a new row. -/
theorem wpList_copy2 {P : Program} {α : Type} [Rp α] {ops : Array Oper} {rest : List Oper} {o : Oper} {a : Act} {w : World} {Q : Exit → Act → World → Prop} {s x : Operand} {t e : TypeId} {bytes : Nat}
    (T : SlT P t e (Rp.sz α) bytes) (hgd : o.guard = none) (ho : o.op = .call { callee := .builtin .append, args := #[s, x], argTypes := #[t, t] })
    {a0 ax : Option Addr} {m0 c0 m c : Nat} (hs : a.eval s = .slice a0 m0 c0) (hx : a.eval x = .slice ax m c) {F : Nat → Prop} {xs ys : List α} (hsl0 : Sl F w (.slice a0 m0 c0) xs) (hsl : Sl F w (.slice ax m c) ys) (hm0 : 0 < m0) (hm : 0 < m) (hfull : c0 < m0 + m)
    (hbytes : (m0 + m) * bytes ≤ 140737488355328) (hnm : m0 + m ≤ 140737488355328)
    (h : ∀ C cap, m0 + m ≤ cap → cap ≤ 9223372036854775807 → Rows8 F w C (xs ++ ys) → wpList P ops Q rest (a.put o.dst (.slice (some ⟨w.heap.size, 0, none⟩) (m0 + m) cap)) (w.drew.alloc (.cells C e))) : wpList P ops Q (o :: rest) a w := by
  obtain ⟨b0, off0, css0, rfl, hl0, hR0, hc0, hfl0⟩ := hsl0.rows hm0
  obtain ⟨b, off, css, rfl, hl, hR, hc, hfl⟩ := hsl.rows hm
  obtain ⟨i, z, hi, hz, hsize, hby, hzs⟩ := T.ex
  subst hby
  have hr := run_append_grow (P := P) w t o.type e i z T.ut hi hz ⟨b0, off0, none⟩ m0 c0 css0.flatten (by rw [hsize]; exact hfl0) hc0 ⟨b, off, none⟩ m c css.flatten (by rw [hsize]; exact hfl) hc hfull (by omega) (growslice_fits hfull hbytes)
  have h1 := grownCap_ge w (m0 + m) c0 e
  have h2 := grownCap_le_maxLen w (m0 + m) c0 e (by unfold maxLen; omega)
  refine wpList_plain hgd fun _ hK => ?_
  unfold Oper.wp execOp
  simp only [ho, resolve, invoke, builtin, Sem.run_bind, Sem.run_pure, Result.andThen_ok, List.map_toArray, List.map_cons, List.map_nil, hs, hx, hr]
  refine hK _ _ (h _ _ h1 (by unfold maxLen at h2; exact h2) fun k hk => ?_)
  have hln : (css0 ++ css).length = (xs ++ ys).length := by simp [hl0, hl]
  have hRR : ∀ i (h : i < (xs ++ ys).length) (h' : i < (css0 ++ css).length), Rp.R F w (xs ++ ys)[i] (css0 ++ css)[i] := by
    intro i h h'
    by_cases q : i < xs.length
    · rw [List.getElem_append_left q, List.getElem_append_left (by omega)]; exact hR0 i q (by omega)
    · rw [List.getElem_append_right (by omega), List.getElem_append_right (by omega)]
      simp only [hl0]
      exact hR _ (by simp at h; omega) (by simp at h'; omega)
  refine ⟨(css0 ++ css)[k]'(by omega), hRR k hk (by omega), fun j hj => ?_⟩
  have e1 := flatten_cells (xs ++ ys) (css0 ++ css) hln hRR k (by omega) j hj
  have e2 : k * Rp.sz α + j < (css0 ++ css).flatten.length := (List.getElem?_eq_some_iff.1 e1).1
  rw [Array.getElem?_append_left (by simpa using e2)]
  rw [List.flatten_append] at e1
  simpa using e1
end Go.Proofs.Ythackfblfkpddaa
