/- append(v, ys...) where v is full: the new row is the call's own. -/
import Derived.Test.YtafcdabiplcjiaaL08v
namespace Go.Proofs.Ytafcdabiplcjiaa
open Go.RowKit
set_option linter.unusedSimpArgs false
set_option linter.unusedVariables false

theorem size_zeroCells (z : Array Value) (n : Nat) : (Builtin.zeroCells z n).size = n * z.size := by
  unfold Builtin.zeroCells
  simp [Nat.mul_comm]
theorem wpList_growO {P : Program} {α : Type} [Rp α] {ops : Array Oper} {rest : List Oper} {o : Oper} {a : Act} {w : World} {Q : Exit → Act → World → Prop} {s x : Operand} {t e : TypeId} {bytes : Nat}
    (T : SlT P t e (Rp.sz α) bytes) (hgd : o.guard = none) (ho : o.op = .call { callee := .builtin .append, args := #[s, x], argTypes := #[t, t] })
    {a0 ax : Option Addr} {m0 c0 m c : Nat} (hs : a.eval s = .slice a0 m0 c0) (hx : a.eval x = .slice ax m c) {F : Nat → Prop} {xs ys : List α} (hsl0 : Sl F w (.slice a0 m0 c0) xs) (hsl : Sl F w (.slice ax m c) ys) (hm0 : 0 < m0) (hm : 0 < m) (hfull : c0 < m0 + m)
    (hRG : ∀ x cs, x ∈ xs ++ ys → Rp.R F w x cs → Rp.R (fun _ => False) w x cs) (hbytes : (m0 + m) * bytes ≤ 140737488355328) (hnm : m0 + m ≤ 140737488355328)
    (h : ∀ w' cap, Grow w w' → Own (fun _ => False) w.heap.size e w' (.slice (some ⟨w.heap.size, 0, none⟩) (m0 + m) cap) (xs ++ ys) → wpList P ops Q rest (a.put o.dst (.slice (some ⟨w.heap.size, 0, none⟩) (m0 + m) cap)) w') : wpList P ops Q (o :: rest) a w := by
  have hx0 := hsl0.len
  have hx1 := hsl.len
  obtain ⟨b0, off0, css0, rfl, hl0, hR0, hc0, hfl0⟩ := hsl0.rows hm0
  obtain ⟨b, off, css, rfl, hl, hR, hc, hfl⟩ := hsl.rows hm
  obtain ⟨i, z, hi, hz, hsize, hby, hzs⟩ := T.ex
  subst hby
  have hr := run_append_grow (P := P) w t o.type e i z T.ut hi hz ⟨b0, off0, none⟩ m0 c0 css0.flatten (by rw [hsize]; exact hfl0) hc0 ⟨b, off, none⟩ m c css.flatten (by rw [hsize]; exact hfl) hc hfull (by omega) (growslice_fits hfull hbytes)
  have h1 := grownCap_ge w (m0 + m) c0 e
  have h2 := grownCap_le_maxLen w (m0 + m) c0 e (by unfold maxLen; omega)
  refine wpList_plain hgd fun _ hK => ?_
  unfold Oper.wp execOp
  simp only [ho, resolve, invoke, builtin, Sem.run_bind, Sem.run_pure, Result.andThen_ok, List.map_toArray, List.map_cons, List.map_nil, hs, hx, hr]
  refine hK _ _ (h _ _ (Grow.alloc (Grow.drew (Grow.refl _)) _) ?_)
  have hfe : (css0 ++ css).flatten.length = (xs.length + ys.length) * Rp.sz α := by
    rw [List.flatten_append, List.length_append, hfl0, hfl, hx0, hx1, Nat.add_mul]
  have hg : Grow w (w.drew.alloc (.cells (css0.flatten.toArray ++ css.flatten.toArray ++ Builtin.zeroCells z.cells (grownCap w (m0 + m) c0 e - (m0 + m))) e)) := Grow.alloc (Grow.drew (Grow.refl _)) _
  refine ⟨fun _ => False, css0 ++ css, fun k hk => hk.elim, by simp [hl0, hl], fun i h h' => ?_, by rw [List.length_append, ← hx0, ← hx1]; exact hnm, ?_⟩
  · refine Rp.keep (Agr.of_grow hg) (hRG _ _ (List.getElem_mem h) ?_)
    by_cases q : i < xs.length
    · rw [List.getElem_append_left q, List.getElem_append_left (by omega)]; exact hR0 i q (by omega)
    · rw [List.getElem_append_right (by omega), List.getElem_append_right (by omega)]
      simp only [hl0]
      exact hR _ (by simp at h; omega) (by simp at h'; omega)
  · refine ⟨by rw [List.length_append]; exact hfe, .inr ⟨w.heap.size, _, _, by rw [List.length_append, ← hx0, ← hx1], Nat.le_refl _, by show (w.drew.heap.push (Obj.cells _ e))[w.drew.heap.size]? = _; exact Array.getElem?_push_size, by rw [List.length_append, ← hx0, ← hx1]; exact h1, h2, ?_, ?_⟩⟩
    · rw [Array.size_append, Array.size_append, size_zeroCells, hzs]
      have e1 : css0.flatten.toArray.size + css.flatten.toArray.size = (m0 + m) * Rp.sz α := by
        rw [List.size_toArray, List.size_toArray, hfl0, hfl, Nat.add_mul]
      rw [e1, ← Nat.add_mul]; congr 1; omega
    · rw [List.length_append, ← hfe, List.flatten_append, Array.toList_append, Array.toList_append, List.take_append_of_le_length (by simp), List.take_of_length_le (by simp)]
theorem Sl.nilF {α : Type} [Rp α] {F G : Nat → Prop} {w : World} {v : Value} (h : Sl F w v ([] : List α)) : Sl G w v ([] : List α) := by
  obtain ⟨a, cap, hv, h1, h2, h3, _⟩ := h
  exact ⟨a, cap, hv, h1, h2, h3, fun i hi => by simp at hi⟩
/-- A block without statements and arguments reads no memory. -/
theorem bk_free {F G : Nat → Prop} {w : World} {b : Bk} {cs : List Value} (hs : b.stmts = []) (ha : b.jump.args = []) (h : Rp.R F w b cs) : Rp.R G w b cs := by
  obtain ⟨sa, sn, sc, ja, jn, jc, hc, hw, h1, h2⟩ := h
  rw [hs] at h1; rw [ha] at h2
  exact ⟨sa, sn, sc, ja, jn, jc, hc, hw, by rw [hs]; exact h1.nilF, by rw [ha]; exact h2.nilF⟩
end Go.Proofs.Ytafcdabiplcjiaa
