/- Slices appended to slices that a call itself makes. -/
import Derived.Test.YtiikhfjdpaofdaaOwn
import Derived.Deep.Upon
namespace Go.Proofs.Ytiikhfjdpaofdaa
open Go.RowKit
set_option linter.unusedSimpArgs false
set_option linter.unusedVariables false

/-- A slice's elements, cell by cell. -/
theorem Sl.rows {α : Type} [Rp α] {F : Nat → Prop} {w : World} {a : Option Addr} {m c : Nat} {ys : List α} (h : Sl F w (.slice a m c) ys) (hm : 0 < m) :
    ∃ b off, ∃ css : List (List Value), a = some ⟨b, off, none⟩ ∧ css.length = ys.length ∧ (∀ i (h : i < ys.length) (h' : i < css.length), Rp.R F w ys[i] css[i]) ∧
      (∀ j u, css.flatten[j]? = some u → w.cell? ((⟨b, off, none⟩ : Addr).add j) = some u) ∧ css.flatten.length = m * Rp.sz α := by
  have hl := h.len
  subst hl
  obtain ⟨a', cap', hv, h1, h2, h3, h⟩ := h
  injection hv with e1 e2 e3; subst e1 e3
  obtain ⟨b, off, ha, hF, hlt, cs0, _⟩ := h 0 hm
  subst ha
  have key : ∀ (n : Nat), n ≤ ys.length → ∃ css : List (List Value), css.length = n ∧ (∀ i (h : i < ys.length) (h' : i < css.length), Rp.R F w ys[i] css[i] ∧ CellsAt w b (off + i * Rp.sz α) css[i]) := by
    intro n
    induction n with
    | zero => intro _; exact ⟨[], rfl, fun i h h' => by cases h'⟩
    | succ n ih =>
      intro hn
      obtain ⟨css, hl, hc⟩ := ih (by omega)
      obtain ⟨b', off', hb, _, _, cs, hR, hcs⟩ := h n (by omega)
      simp only [Option.some.injEq, Addr.mk.injEq, and_true] at hb
      obtain ⟨rfl, rfl⟩ := hb
      refine ⟨css ++ [cs], by simp [hl], fun i h h' => ?_⟩
      by_cases q : i < css.length
      · rw [List.getElem_append_left q]; exact hc i h q
      · obtain rfl : i = n := by simp at h'; omega
        rw [List.getElem_append_right (by omega)]
        simp only [hl, Nat.sub_self, List.getElem_cons_zero]
        exact ⟨hR, hcs⟩
  obtain ⟨css, hl, hc⟩ := key ys.length (Nat.le_refl _)
  have hlen : css.flatten.length = ys.length * Rp.sz α := by
    have hr : ∀ x ∈ css, x.length = Rp.sz α := by
      intro x hx
      obtain ⟨i, hi, rfl⟩ := List.getElem_of_mem hx
      exact Rp.len (hc i (by omega) hi).1
    rw [List.length_flatten, ← hl]
    clear hl hc key
    induction css with
    | nil => simp
    | cons x l ih => simp [hr x (by simp), ih (fun y hy => hr y (by simp [hy])), Nat.add_mul]; omega
  refine ⟨b, off, css, rfl, hl, fun i h h' => (hc i h h').1, fun j u hu => ?_, hlen⟩
  have hj : j < css.flatten.length := (List.getElem?_eq_some_iff.1 hu).1
  have hsz : 0 < Rp.sz α := by
    rcases Nat.eq_zero_or_pos (Rp.sz α) with q | q
    · rw [hlen, q] at hj; simp at hj
    · exact q
  have hi : j / Rp.sz α < css.length := by rw [hl]; exact (Nat.div_lt_iff_lt_mul hsz).2 (by rw [hlen] at hj; exact hj)
  have hk : j % Rp.sz α < css[j / Rp.sz α].length := by rw [Rp.len (hc _ (by omega) hi).1]; exact Nat.mod_lt _ hsz
  have e := flatten_cells ys css hl (fun i h h' => (hc i h h').1) (j / Rp.sz α) hi (j % Rp.sz α) hk
  have ej : j / Rp.sz α * Rp.sz α + j % Rp.sz α = j := by rw [Nat.mul_comm]; exact Nat.div_add_mod j (Rp.sz α)
  rw [ej, hu] at e
  injection e with e
  rw [e, Addr.add_lit]
  have := (hc (j / Rp.sz α) (by omega) hi).2 (j % Rp.sz α) hk
  rw [← this]; congr 2; omega

/-- append(v, ys...). -/
theorem run_appS {P : Program} {α : Type} [Rp α] {t ty e : TypeId} {bytes : Nat} (T : SlT P t e (Rp.sz α) bytes) (hone : ∀ (G : Nat → Prop) (w : World) (x : α) cs, Rp.R G w x cs → ∀ u ∈ cs, u.oneCell' = true)
    {F Fy : Nat → Prop} {base : Nat} {w : World} {v : Value} {xs ys : List α} (hown : Own F base e w v xs) (hb : base ≤ w.heap.size) {ax : Option Addr} {m c : Nat} (hs : Sl Fy w (.slice ax m c) ys)
    {Gy : Nat → Prop} (hRG : ∀ (x : α) cs, Rp.R Fy w x cs → Rp.R Gy w x cs) (hGy : ∀ k, Gy k → k < w.heap.size ∧ (F k ∨ base ≤ k) ∧ v.ownBlock ≠ some k) (hbytes : (xs.length + m) * bytes ≤ 140737488355328) (hnm : xs.length + m ≤ 140737488355328) :
    ∃ v' w', (Builtin.append_ #[t, t] ty #[v, .slice ax m c]).run P w = .ok v' w' ∧ Own F base e w' v' (xs ++ ys) ∧ w.grownBy w' v.ownBlock := by
  have hlen := hs.len
  by_cases hm : 0 < m
  · obtain ⟨b, off, css, rfl, hl, hR, hc, hfl⟩ := hs.rows hm
    obtain ⟨G, ds, hG, hld, hRs, hn, hor⟩ := id hown
    obtain ⟨v', w', hr, h2, h3, h4⟩ := run_app (P := P) w base t ty e _ bytes T v _ _ hor ⟨b, off, none⟩ m c css.flatten hfl hc (fun u hu => by
      obtain ⟨cs, hcs, hu⟩ := List.mem_flatten.1 hu
      obtain ⟨i, hi, rfl⟩ := List.getElem_of_mem hcs
      exact hone _ _ _ _ (hR i (by omega) hi) u hu) hm hbytes hnm hb
    refine ⟨v', w', hr, ?_, h3⟩
    exact Own.snoc (Gy := Gy) hG hld hRs hGy hl (fun i h h' => hRG _ _ (hR i h h')) (by omega) (by rw [← hlen]; exact h2) h3 h4
  · obtain rfl : m = 0 := by omega
    obtain rfl : ys = [] := List.eq_nil_of_length_eq_zero hlen.symm
    obtain ⟨a0, cap0, rfl, hle⟩ := hown.shape
    have hle' : xs.length ≤ cap0 := by
      obtain ⟨_, n0, _, hv, _, _, q, _⟩ := hown.sl.open
      injection hv with _ e2 e3; omega
    obtain ⟨i, z, hi, hz, hsize, hby, hzs⟩ := T.ex
    refine ⟨_, w, run_append_nothing (P := P) w t t ty e i T.ut hi a0 xs.length cap0 hle' (.slice ax 0 c) ⟨.inl ⟨e, T.ut⟩, fun w' => ?_, ?_, ?_, by simp, fun u hu => by cases hu⟩, by simpa using hown, ⟨rfl, rfl, rfl, Nat.le_refl _, fun _ _ _ => rfl⟩⟩
    · simp [Builtin.lenOf]
    · cases ax <;> simp [Builtin.firstCells, loadCells, loadCellsFrom]
    · cases ax <;> simp [Builtin.firstCells, loadCells, loadCellsFrom]

theorem Own.zero {α : Type} [Rp α] {F : Nat → Prop} {base : Nat} {e : TypeId} {w : World} {g : Nat} (hg : w.heap[g]? = some (.cells #[] e)) (hb : base ≤ g) : Own F base e w (.slice (some ⟨g, 0, none⟩) 0 0) ([] : List α) :=
  ⟨fun _ => False, [], fun _ h => h.elim, rfl, (fun i h => by cases h), by simp, by
    refine ⟨by simp, .inr ⟨g, 0, #[], rfl, hb, hg, Nat.le_refl _, by unfold maxLen; omega, by simp, by simp⟩⟩⟩

theorem grown_grow {W w w' : World} {row : Option Nat} (hW : Grow W w) (h : w.grownBy w' row) (hr : ∀ k, row = some k → W.heap.size ≤ k) : Grow W w' :=
  ⟨h.os.trans hW.os, h.tape.trans hW.tape, h.output.trans hW.output, Nat.le_trans hW.size h.size, fun k hk => by
    rw [h.block k (Nat.lt_of_lt_of_le hk hW.size) (fun e => by have := hr k e.symm; omega), hW.block k hk]⟩

/-- append(v, ys...), as a step. -/
theorem wpList_appS {P : Program} {α : Type} [Rp α] {ops : Array Oper} {rest : List Oper} {o : Oper} {a : Act} {W w : World} {Q : Exit → Act → World → Prop} {s x : Operand} {t e : TypeId} {bytes : Nat}
    (T : SlT P t e (Rp.sz α) bytes) (hone : ∀ (G : Nat → Prop) (w : World) (x : α) cs, Rp.R G w x cs → ∀ u ∈ cs, u.oneCell' = true) (hgd : o.guard = none)
    (ho : o.op = .call { callee := .builtin .append, args := #[s, x], argTypes := #[t, t] }) {F Fy : Nat → Prop} {base : Nat} {v : Value} {xs ys : List α} (hs : a.eval s = v) {ax : Option Addr} {m c : Nat} (hx : a.eval x = .slice ax m c)
    (hW : Grow W w) (hWb : W.heap.size ≤ base) (hb : base ≤ w.heap.size) (hown : Own F base e w v xs) (hsl : Sl Fy w (.slice ax m c) ys) {Gy : Nat → Prop} (hRG : ∀ (x : α) cs, Rp.R Fy w x cs → Rp.R Gy w x cs)
    (hGy : ∀ k, Gy k → k < w.heap.size ∧ (F k ∨ base ≤ k) ∧ v.ownBlock ≠ some k) (hbytes : (xs.length + m) * bytes ≤ 140737488355328) (hnm : xs.length + m ≤ 140737488355328)
    (h : ∀ v' w', Grow W w' → w.grownBy w' v.ownBlock → Own F base e w' v' (xs ++ ys) → wpList P ops Q rest (a.put o.dst v') w') : wpList P ops Q (o :: rest) a w := by
  obtain ⟨v', w', hr, hO, hg⟩ := run_appS (P := P) (ty := o.type) T hone hown hb hsl hRG hGy hbytes hnm
  refine wpList_plain hgd fun _ hK => ?_
  unfold Oper.wp execOp
  simp only [ho, resolve, invoke, builtin, Sem.run_bind, Sem.run_pure, Result.andThen_ok, List.map_toArray, List.map_cons, List.map_nil, hs, hx, hr]
  exact hK _ _ (h v' w' (grown_grow hW hg fun k hk => by have := hown.row_lt k hk; omega) hg hO)
end Go.Proofs.Ytiikhfjdpaofdaa
