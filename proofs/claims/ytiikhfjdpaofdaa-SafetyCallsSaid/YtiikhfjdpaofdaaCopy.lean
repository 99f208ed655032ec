/- A slice copied into a row of the call's own: append([]T{}, xs...). -/
import Derived.Test.YtiikhfjdpaofdaaOwn2
namespace Go.Proofs.Ytiikhfjdpaofdaa
open Go.RowKit
set_option linter.unusedSimpArgs false
set_option linter.unusedVariables false

/-- The cells C begin with the elements xs. -/
def Rows8 {α : Type} [Rp α] (F : Nat → Prop) (w : World) (C : Array Value) (xs : List α) : Prop :=
  ∀ i (h : i < xs.length), ∃ cs, Rp.R F w xs[i] cs ∧ ∀ j (hj : j < cs.length), C[i * Rp.sz α + j]? = some cs[j]

theorem Rows8.sl {α : Type} [Rp α] {F : Nat → Prop} {w w' : World} {C : Array Value} {xs : List α} (h : Rows8 F w C xs) {g cap : Nat} {e : TypeId} (hg : w'.heap[g]? = some (.cells C e)) (ha : Agr F w w') (h1 : xs.length ≤ cap) (h2 : cap ≤ 9223372036854775807) :
    Sl (fun k => F k ∨ k = g) w' (.slice (some ⟨g, 0, none⟩) xs.length cap) xs := by
  refine ⟨_, cap, rfl, h1, h2, (fun h => by cases h), fun i hi => ⟨g, 0, rfl, Or.inr rfl, (Array.getElem?_eq_some_iff.1 hg).1, ?_⟩⟩
  obtain ⟨cs, hR, hc⟩ := h i hi
  refine ⟨cs, Rp.wide (fun k _ hk => Or.inl hk) (Rp.keep ha hR), fun j hj => ?_⟩
  simp only [World.cell?, hg, Nat.zero_add]
  rw [hc j hj]; rfl

theorem wpList_copy {P : Program} {α : Type} [Rp α] {ops : Array Oper} {rest : List Oper} {o : Oper} {a : Act} {w : World} {Q : Exit → Act → World → Prop} {s x : Operand} {t e : TypeId} {bytes : Nat}
    (T : SlT P t e (Rp.sz α) bytes) (hgd : o.guard = none) (ho : o.op = .call { callee := .builtin .append, args := #[s, x], argTypes := #[t, t] })
    {g : Nat} (hs : a.eval s = .slice (some ⟨g, 0, none⟩) 0 0) {ax : Option Addr} {m c : Nat} (hx : a.eval x = .slice ax m c) {F : Nat → Prop} {ys : List α} (hsl : Sl F w (.slice ax m c) ys) (hm : 0 < m)
    (hbytes : m * bytes ≤ 140737488355328) (hnm : m ≤ 140737488355328)
    (h : ∀ C cap, m ≤ cap → cap ≤ 9223372036854775807 → Rows8 F w C ys → wpList P ops Q rest (a.put o.dst (.slice (some ⟨w.heap.size, 0, none⟩) m cap)) (w.drew.alloc (.cells C e))) : wpList P ops Q (o :: rest) a w := by
  obtain ⟨b, off, css, rfl, hl, hR, hc, hfl⟩ := hsl.rows hm
  obtain ⟨i, z, hi, hz, hsize, hby, hzs⟩ := T.ex
  subst hby
  have hr := run_append_grow (P := P) w t o.type e i z T.ut hi hz ⟨g, 0, none⟩ 0 0 [] (by simp) (fun j v hv => by simp at hv) ⟨b, off, none⟩ m c css.flatten (by rw [hsize]; exact hfl) hc (by omega) (by omega) (growslice_fits (by omega) (by simpa using hbytes))
  have h1 := grownCap_ge w (0 + m) 0 e
  have h2 := grownCap_le_maxLen w (0 + m) 0 e (by unfold maxLen; omega)
  have hn0 : 0 + m = m := Nat.zero_add m
  rw [hn0] at hr h1 h2
  refine wpList_plain hgd fun _ hK => ?_
  unfold Oper.wp execOp
  simp only [ho, resolve, invoke, builtin, Sem.run_bind, Sem.run_pure, Result.andThen_ok, List.map_toArray, List.map_cons, List.map_nil, hs, hx, hr]
  refine hK _ _ (h _ _ h1 (by unfold maxLen at h2; exact h2) fun k hk => ?_)
  have hlen := hsl.len
  refine ⟨css[k]'(by omega), hR k hk (by omega), fun j hj => ?_⟩
  have e1 := flatten_cells ys css hl (fun i h h' => hR i h h') k (by omega) j hj
  have e2 : k * Rp.sz α + j < css.flatten.length := (List.getElem?_eq_some_iff.1 e1).1
  rw [Array.getElem?_append_left (by simpa using e2)]
  simpa using e1
end Go.Proofs.Ytiikhfjdpaofdaa
