/- Layer 8: the law of arity. -/
import Derived.Test.YthackfblfkpddaaL08l
import Derived.Test.YthackfblfkpddaaL08d
import Derived.Test.YthackfblfkpddaaL08z
namespace Go.Proofs.Ythackfblfkpddaa
open Go.RowKit
set_option linter.unusedSimpArgs false
set_option linter.unusedVariables false

/-- A world seen with one of its newer blocks in sight. -/
theorem split_at {W : World} {x : Ext} {R : Nat} {o : Obj} (h : (ext W x).heap[R]? = some o) (hR : W.heap.size ≤ R) : ∃ xa xb, R = W.heap.size + xa.k ∧ ext W x = ext ((ext W xa).alloc o) xb := by
  have hlt : R < (W.heap ++ x.x).size := (Array.getElem?_eq_some_iff.1 h).1
  have hsz : (W.heap ++ x.x).size = W.heap.size + x.x.size := by simp
  refine ⟨⟨0, x.x.extract 0 (R - W.heap.size)⟩, ⟨x.d, x.x.extract (R - W.heap.size + 1) x.x.size⟩, by unfold Ext.k; simp; omega, ?_⟩
  simp only [ext, World.alloc]
  congr 1
  have h' : (W.heap ++ x.x)[R]? = some o := h
  apply Array.ext_getElem?
  intro i
  by_cases h1 : i < W.heap.size
  · rw [Array.getElem?_append_left h1, Array.getElem?_append_left (by simp; omega), Array.getElem?_push, if_neg (by simp; omega), Array.getElem?_append_left h1]
  · rw [Array.getElem?_append_right (by omega)]
    by_cases h2 : i < R
    · rw [Array.getElem?_append_left (by simp; omega), Array.getElem?_push, if_neg (by simp; omega), Array.getElem?_append_right (by omega), Array.getElem?_extract, if_pos (by omega)]; congr 1; omega
    · by_cases h3 : i = R
      · subst h3
        rw [Array.getElem?_append_left (by simp; omega), Array.getElem?_push, if_pos (by simp; omega)]
        rw [Array.getElem?_append_right (by omega)] at h'; exact h'
      · rw [Array.getElem?_append_right (by simp; omega), Array.getElem?_extract]
        simp only [Array.size_push, Array.size_append, Array.size_extract]
        by_cases h4 : i < W.heap.size + x.x.size
        · rw [if_pos (by omega)]; congr 1; omega
        · rw [if_neg (by omega), Array.getElem?_eq_none (by omega)]
theorem twin_a (p : Pr) (pv : Value) (w : World) {F : Nat → Prop} (hp : Sl F w pv p.funcs) (hsm : bigPr 12 p = false) :
    Calls Try.prog 19 #[p.v pv] w (RetP w fun v w' => ∃ ua un uc fss, v = p.v (.slice ua un uc) ∧ Hid (fss.map FnS.f = p.funcs ∧ Rising fss) ∧ Own (fun _ => False) w.heap.size 50 w' (.slice ua un uc) fss) := ref08_Twin p pv w hp hsm
theorem wpList_appG {α : Type} [Rp α] {P : Program} {ops : Array Oper} {rest : List Oper} {o : Oper} {a : Act} {w : World} {Q : Exit → Act → World → Prop} {s x : Operand} {t e : TypeId} {bytes : Nat}
    (T : SlT P t e (Rp.sz α) bytes) (hgd : o.guard = none) (ho : o.op = .call { callee := .builtin .append, args := #[s, x], argTypes := #[t, t] })
    {F : Nat → Prop} {base : Nat} {v : Value} {xs : List α} (hs : a.eval s = v) (hown : Own F base e w v xs) (hbs : base ≤ w.heap.size)
    {b off c : Nat} (hx : a.eval x = .slice (some ⟨b, off, none⟩) 1 c) {y : α} {cs : List Value} {Gy : Nat → Prop} (hR : Rp.R Gy w y cs) (hGy : ∀ k, Gy k → k < w.heap.size ∧ (F k ∨ base ≤ k) ∧ v.ownBlock ≠ some k)
    (hc : CellsAt w b off cs) (h1 : cs.all (·.oneCell') = true) (hlen : (xs.length + 1) * bytes ≤ 140737488355328) (hlen' : xs.length + 1 ≤ 140737488355328)
    (h : ∀ v' w', Own F base e w' v' (xs ++ [y]) → w.grownBy w' v.ownBlock → (v'.ownBlock = v.ownBlock ∨ v'.ownBlock = some w.heap.size) → wpList P ops Q rest (a.put o.dst v') w') : wpList P ops Q (o :: rest) a w := by
  obtain ⟨G, css, hG, hl, hRs, hn, hor⟩ := hown
  have hcl : cs.length = Rp.sz α := Rp.len hR
  obtain ⟨v', w', hr, h2, h3, h4⟩ := run_app (P := P) w base t o.type e _ bytes T v _ _ hor ⟨b, off, none⟩ 1 c cs (by rw [hcl]; simp) (fun j u hu => by
    obtain ⟨hj, rfl⟩ := List.getElem?_eq_some_iff.1 hu
    rw [Addr.add_lit]; exact hc j hj) (fun u hu => (List.all_eq_true.1 h1) u hu) (by omega) hlen hlen' hbs
  have hOwn : Own F base e w' v' (xs ++ [y]) := Own.snoc (ds := [cs]) (Gy := Gy) hG hl hRs hGy rfl (fun i h h' => match i, h with | 0, _ => hR) hlen' (by simpa using h2) h3 h4
  refine wpList_plain hgd fun _ hK => ?_
  unfold Oper.wp execOp
  simp only [ho, resolve, invoke, builtin, Sem.run_bind, Sem.run_pure, Result.andThen_ok, List.map_toArray, List.map_cons, List.map_nil, hs, hx, hr]
  exact hK _ _ (h v' w' hOwn h3 h4)
theorem OwnR.own {α : Type} [Rp α] [Leaf α] {lo hi base : Nat} {e : TypeId} {w : World} {v : Value} {xs : List α} (h : OwnR lo hi e w v xs) (hb : ∀ k, v.ownBlock = some k → base ≤ k) : Own (fun _ => False) base e w v xs := by
  obtain ⟨G, css, hG, hv, hl, hR, hn, h1, h2⟩ := h
  refine ⟨fun _ => False, css, fun _ h => h.elim, hl, fun i h h' => Leaf.any (hR i h h'), hn, h1, ?_⟩
  rcases h2 with h2 | ⟨g, cap, cur, rfl, hbg, hr⟩
  · exact .inl h2
  · exact .inr ⟨g, cap, cur, rfl, hb g rfl, hr⟩
theorem OwnR.row {α : Type} [Rp α] {lo hi : Nat} {e : TypeId} {w : World} {v : Value} {xs : List α} (h : OwnR lo hi e w v xs) : ∀ k, v.ownBlock = some k → lo ≤ k ∧ k < hi := by
  obtain ⟨G, css, hG, hv, _⟩ := h; exact hv
theorem Own.leafSl {α : Type} [Rp α] [Leaf α] {F : Nat → Prop} {base : Nat} {e : TypeId} {w : World} {v : Value} {xs : List α} (h : Own F base e w v xs) : Sl (fun k => v.ownBlock = some k) w v xs := by
  obtain ⟨G, css, hG, hl, hR, hn, hown⟩ := h
  rcases id hown.2 with ⟨rfl, h0⟩ | ⟨g, cap, cur, rfl, hbg, hg, hnc, hcm, hcs, htake⟩
  · obtain rfl : xs = [] := List.eq_nil_of_length_eq_zero h0
    exact Sl.nil _ _
  · refine Sl.mk rfl rfl (Array.getElem?_eq_some_iff.1 hg).1 hnc (by unfold maxLen at hcm; exact hcm) fun i hi => ?_
    refine ⟨css[i]'(by omega), Leaf.any (hR i hi (by omega)), fun j hj => ?_⟩
    have := hown.cells (g := g) rfl (i * Rp.sz α + j) _ (flatten_cells xs css hl hR i (by omega) j hj)
    rw [Addr.add_lit] at this; simpa using this
theorem row_one {w : World} {b : Nat} {v : Value} {t : TypeId} (h : w.heap[b]? = some (.cells #[v] t)) : row? w b 0 1 = some [v] := by
  unfold row?; rw [h]; rfl
theorem turn_agr {B : World} {c c' : Obj} {x : Ext} {R : Nat} (hR : R = B.heap.size) : ∀ k, k < (ext (B.alloc c) x).heap.size → k ≠ R → (ext (B.alloc c') x).heap[k]? = (ext (B.alloc c) x).heap[k]? :=
  fun k hk hne => ((AgrS.alloc (AgrS.refl (fun k => k ≠ R) B) (by simp [hR]) c c').ext x).agr k hne hk
theorem turn_size {B : World} {c c' : Obj} {x : Ext} : (ext (B.alloc c) x).heap.size = (ext (B.alloc c') x).heap.size := by simp
theorem turn_at {B : World} {c : Obj} {x : Ext} {R : Nat} (hR : R = B.heap.size) : (ext (B.alloc c) x).heap[R]? = some c := by
  subst hR
  rw [(grow_ext (B.alloc c) x).block _ (by simp)]
  exact Array.getElem?_push_size
theorem Check_at (p : Pr) (pv : Value) (w : World) {F : Nat → Prop} (hp : Sl F w pv p.funcs) {e : Int} (h : prErr p = e) : Calls Try.prog 26 #[p.v pv] w (Ret w (.int .i64 e)) := h ▸ program_Check p pv w hp
end Go.Proofs.Ythackfblfkpddaa
