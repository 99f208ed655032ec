/- A slice copied into a row of the call's own: append([]T{}, xs...). -/
import Derived.Test.YtiikhfjdpaofdaaOwn2
namespace Go.Proofs.Ytiikhfjdpaofdaa
open Go.RowKit
set_option linter.unusedSimpArgs false
set_option linter.unusedVariables false

theorem hp_alloc {W : World} {o : Obj} {b : Nat} [h : LtW b W] : (W.alloc o).heap[b]? = W.heap[b]? := Below.heap_alloc _ _ _ h.lt
theorem hp_at {W : World} {o : Obj} {b : Nat} [h : EqW b W] : (W.alloc o).heap[b]? = some o := by have e := h.eq; subst e; exact Array.getElem?_push_size
theorem hp_ext {W : World} {x : Ext} {b : Nat} [h : LtW b W] : (ext W x).heap[b]? = W.heap[b]? := (grow_ext W x).block b h.lt
theorem hp_drew {W : World} {b : Nat} : W.drew.heap[b]? = W.heap[b]? := rfl
/-- The cells C begin with the elements xs. -/
def Rows8 {α : Type} [Rp α] (F : Nat → Prop) (w : World) (C : Array Value) (xs : List α) : Prop :=
  ∀ i (h : i < xs.length), ∃ cs, Rp.R F w xs[i] cs ∧ ∀ j (hj : j < cs.length), C[i * Rp.sz α + j]? = some cs[j]

theorem Rows8.sl {α : Type} [Rp α] {F : Nat → Prop} {w w' : World} {C : Array Value} {xs : List α} (h : Rows8 F w C xs) {g cap : Nat} {e : TypeId} (hg : w'.heap[g]? = some (.cells C e)) (ha : Agr F w w') (h1 : xs.length ≤ cap) (h2 : cap ≤ 9223372036854775807) :
    Sl (fun k => F k ∨ k = g) w' (.slice (some ⟨g, 0, none⟩) xs.length cap) xs := by
  refine ⟨_, cap, rfl, h1, h2, (fun h => by cases h), fun i hi => ⟨g, 0, rfl, Or.inr rfl, (Array.getElem?_eq_some_iff.1 hg).1, ?_⟩⟩
  obtain ⟨cs, hR, hc⟩ := h i hi
  refine ⟨cs, Rp.wide (fun k _ hk => Or.inl hk) (Rp.keep ha hR), fun j hj => ?_⟩
  simp only [World.cell?, hg, Nat.zero_add]
  rw [hc j hj]; rfl

theorem wpList_copy {P : Program} {α : Type} [Rp α] {ops : Array Oper} {rest : List Oper} {o : Oper} {a : Act} {w : World} {Q : Exit → Act → World → Prop} {s x : Operand} {t e : TypeId} {bytes : Nat}
    (T : SlT P t e (Rp.sz α) bytes) (hgd : o.guard = none) (ho : o.op = .call { callee := .builtin .append, args := #[s, x], argTypes := #[t, t] })
    {g : Nat} (hs : a.eval s = .slice (some ⟨g, 0, none⟩) 0 0) {ax : Option Addr} {m c : Nat} (hx : a.eval x = .slice ax m c) {F : Nat → Prop} {ys : List α} (hsl : Sl F w (.slice ax m c) ys) (hm : 0 < m)
    (hbytes : m * bytes ≤ 140737488355328) (hnm : m ≤ 140737488355328)
    (h : ∀ C cap, m ≤ cap → cap ≤ 9223372036854775807 → Rows8 F w C ys → wpList P ops Q rest (a.put o.dst (.slice (some ⟨w.heap.size, 0, none⟩) m cap)) (w.drew.alloc (.cells C e))) : wpList P ops Q (o :: rest) a w := by
  obtain ⟨b, off, css, rfl, hl, hR, hc, hfl⟩ := hsl.rows hm
  obtain ⟨i, z, hi, hz, hsize, hby, hzs⟩ := T.ex
  subst hby
  have hr := run_append_grow (P := P) w t o.type e i z T.ut hi hz ⟨g, 0, none⟩ 0 0 [] (by simp) (fun j v hv => by simp at hv) ⟨b, off, none⟩ m c css.flatten (by rw [hsize]; exact hfl) hc (by omega) (by omega) (growslice_fits (by omega) (by simpa using hbytes))
  have h1 := grownCap_ge w (0 + m) 0 e
  have h2 := grownCap_le_maxLen w (0 + m) 0 e (by unfold maxLen; omega)
  have hn0 : 0 + m = m := Nat.zero_add m
  rw [hn0] at hr h1 h2
  refine wpList_plain hgd fun _ hK => ?_
  unfold Oper.wp execOp
  simp only [ho, resolve, invoke, builtin, Sem.run_bind, Sem.run_pure, Result.andThen_ok, List.map_toArray, List.map_cons, List.map_nil, hs, hx, hr]
  refine hK _ _ (h _ _ h1 (by unfold maxLen at h2; exact h2) fun k hk => ?_)
  have hlen := hsl.len
  refine ⟨css[k]'(by omega), hR k hk (by omega), fun j hj => ?_⟩
  have e1 := flatten_cells ys css hl (fun i h h' => hR i h h') k (by omega) j hj
  have e2 : k * Rp.sz α + j < css.flatten.length := (List.getElem?_eq_some_iff.1 e1).1
  rw [Array.getElem?_append_left (by simpa using e2)]
  simpa using e1
theorem Rows8.flat {α : Type} [Rp α] {F : Nat → Prop} {w : World} {xs : List α} (css : List (List Value)) (hl : css.length = xs.length) (hR : ∀ i (h : i < xs.length) (h' : i < css.length), Rp.R F w xs[i] css[i]) {C : Array Value} (hC : C = css.flatten.toArray) : Rows8 F w C xs := by
  subst hC
  intro i hi
  refine ⟨css[i]'(by omega), hR i hi (by omega), fun j hj => ?_⟩
  have := flatten_cells xs css hl hR i (by omega) j hj
  simpa using this
/-- One cell of one element set. -/
theorem Rows8.put {α : Type} [Rp α] {F : Nat → Prop} {w : World} {C : Array Value} {xs : List α} (h : Rows8 F w C xs) (k : Nat) (hk : k < xs.length) (j : Nat) (hj : j < Rp.sz α) (u : Value) {x' : α} (hx : ∀ cs, Rp.R F w xs[k] cs → Rp.R F w x' (cs.set j u)) :
    Rows8 F w (C.setIfInBounds (k * Rp.sz α + j) u) (xs.set k x') := by
  intro i hi
  have hi' : i < xs.length := by simpa using hi
  obtain ⟨cs, hR, hc⟩ := h i hi'
  have hlen := Rp.len hR
  by_cases e : i = k
  · subst e
    rw [List.getElem_set_self]
    refine ⟨cs.set j u, hx cs hR, fun q hq => ?_⟩
    have hq' : q < cs.length := by simpa using hq
    have hz : i * Rp.sz α + j < C.size := (Array.getElem?_eq_some_iff.1 (hc j (by omega))).1
    rw [Array.getElem?_setIfInBounds, List.getElem_set]
    by_cases z : j = q
    · subst z; rw [if_pos rfl, if_pos hz, if_pos rfl]
    · rw [if_neg (by omega), if_neg z, hc q hq']
  · rw [List.getElem_set_ne (Ne.symm e)]
    refine ⟨cs, hR, fun q hq => ?_⟩
    rw [Array.getElem?_setIfInBounds, if_neg, hc q hq]
    intro z
    have h1 : k * Rp.sz α + j = i * Rp.sz α + q := z
    have h2 : (k * Rp.sz α + j) / Rp.sz α = k := by
      rw [Nat.mul_comm, Nat.mul_add_div (by omega), Nat.div_eq_of_lt hj, Nat.add_zero]
    have h3 : (i * Rp.sz α + q) / Rp.sz α = i := by
      rw [Nat.mul_comm, Nat.mul_add_div (by omega), Nat.div_eq_of_lt (by omega), Nat.add_zero]
    exact e (by rw [← h3, ← h1, h2])
/-- append(v, ys...), where v is full: all of it in a new row. -/
theorem wpList_copy2 {P : Program} {α : Type} [Rp α] {ops : Array Oper} {rest : List Oper} {o : Oper} {a : Act} {w : World} {Q : Exit → Act → World → Prop} {s x : Operand} {t e : TypeId} {bytes : Nat}
    (T : SlT P t e (Rp.sz α) bytes) (hgd : o.guard = none) (ho : o.op = .call { callee := .builtin .append, args := #[s, x], argTypes := #[t, t] })
    {a0 ax : Option Addr} {m0 c0 m c : Nat} (hs : a.eval s = .slice a0 m0 c0) (hx : a.eval x = .slice ax m c) {F : Nat → Prop} {xs ys : List α} (hsl0 : Sl F w (.slice a0 m0 c0) xs) (hsl : Sl F w (.slice ax m c) ys) (hm0 : 0 < m0) (hm : 0 < m) (hfull : c0 < m0 + m)
    (hbytes : (m0 + m) * bytes ≤ 140737488355328) (hnm : m0 + m ≤ 140737488355328)
    (h : ∀ C cap, m0 + m ≤ cap → cap ≤ 9223372036854775807 → Rows8 F w C (xs ++ ys) → wpList P ops Q rest (a.put o.dst (.slice (some ⟨w.heap.size, 0, none⟩) (m0 + m) cap)) (w.drew.alloc (.cells C e))) : wpList P ops Q (o :: rest) a w := by
  obtain ⟨b0, off0, css0, rfl, hl0, hR0, hc0, hfl0⟩ := hsl0.rows hm0
  obtain ⟨b, off, css, rfl, hl, hR, hc, hfl⟩ := hsl.rows hm
  obtain ⟨i, z, hi, hz, hsize, hby, hzs⟩ := T.ex
  subst hby
  have hr := run_append_grow (P := P) w t o.type e i z T.ut hi hz ⟨b0, off0, none⟩ m0 c0 css0.flatten (by rw [hsize]; exact hfl0) hc0 ⟨b, off, none⟩ m c css.flatten (by rw [hsize]; exact hfl) hc hfull (by omega) (growslice_fits hfull hbytes)
  have h1 := grownCap_ge w (m0 + m) c0 e
  have h2 := grownCap_le_maxLen w (m0 + m) c0 e (by unfold maxLen; omega)
  refine wpList_plain hgd fun _ hK => ?_
  unfold Oper.wp execOp
  simp only [ho, resolve, invoke, builtin, Sem.run_bind, Sem.run_pure, Result.andThen_ok, List.map_toArray, List.map_cons, List.map_nil, hs, hx, hr]
  refine hK _ _ (h _ _ h1 (by unfold maxLen at h2; exact h2) fun k hk => ?_)
  have hln : (css0 ++ css).length = (xs ++ ys).length := by simp [hl0, hl]
  have hRR : ∀ i (h : i < (xs ++ ys).length) (h' : i < (css0 ++ css).length), Rp.R F w (xs ++ ys)[i] (css0 ++ css)[i] := by
    intro i h h'
    by_cases q : i < xs.length
    · rw [List.getElem_append_left q, List.getElem_append_left (by omega)]; exact hR0 i q (by omega)
    · rw [List.getElem_append_right (by omega), List.getElem_append_right (by omega)]
      simp only [hl0]
      exact hR _ (by simp at h; omega) (by simp at h'; omega)
  refine ⟨(css0 ++ css)[k]'(by omega), hRR k hk (by omega), fun j hj => ?_⟩
  have e1 := flatten_cells (xs ++ ys) (css0 ++ css) hln hRR k (by omega) j hj
  have e2 : k * Rp.sz α + j < (css0 ++ css).flatten.length := (List.getElem?_eq_some_iff.1 e1).1
  rw [Array.getElem?_append_left (by simpa using e2)]
  rw [List.flatten_append] at e1
  simpa using e1
end Go.Proofs.Ytiikhfjdpaofdaa
