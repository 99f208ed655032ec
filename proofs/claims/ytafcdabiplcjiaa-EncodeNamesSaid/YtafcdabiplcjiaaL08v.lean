/- Layers 7 and 8, the reference: twins, copies that share no memory. -/
import Derived.Test.YtafcdabiplcjiaaOwn
import Derived.Test.YtafcdabiplcjiaaLG08
import Derived.Test.YtafcdabiplcjiaaReg
import Derived.Deep.DeepCutAuto
import Derived.Deep.CutBlock
import Derived.Deep.DeepMust
namespace Go.Proofs.Ytafcdabiplcjiaa
open Go.RowKit
set_option linter.unusedSimpArgs false
set_option linter.unusedVariables false

theorem slTv_Ty : SlT Try.prog 22 65 2 2 := SlT.mk' (z := .agg #[.int .u8 0, .int .u8 0]) Try.underlying22 (by kernel_rfl) rfl (by omega)
theorem slTv_Opd : SlT Try.prog 47 45 5 32 := SlT.mk' (z := .agg #[.int .u8 0, .int .i64 0, .int .i64 0, .bool false, .int .u8 0]) Try.underlying47 (by kernel_rfl) rfl (by omega)
theorem slTv_St : SlT Try.prog 55 54 26 152 := SlT.mk' (z := .agg #[.int .u8 0, .int .i64 0, .bool false, .int .u8 0, .int .u8 0, .int .u8 0, .int .u8 0, .int .u8 0, .int .i64 0, .int .i64 0, .bool false, .int .u8 0, .int .u8 0, .int .i64 0, .int .i64 0, .bool false, .int .u8 0, .int .i64 0, .bool false, .int .u8 0, .int .u8 0, .int .i64 0, .int .i64 0, .bool false, .int .u8 0, .int .i64 0]) Try.underlying55 (by kernel_rfl) rfl (by omega)
theorem slTv_Bk : SlT Try.prog 23 57 14 128 := SlT.mk' (z := .agg #[.slice none 0 0, .int .u8 0, .int .u8 0, .int .i64 0, .int .i64 0, .bool false, .int .u8 0, .int .i64 0, .int .i64 0, .int .i64 0, .slice none 0 0, .int .i64 0, .bool false, .int .u8 0]) Try.underlying23 (by kernel_rfl) rfl (by omega)
theorem slTv_Fn : SlT Try.prog 33 25 4 64 := SlT.mk' (z := .agg #[.int .i64 0, .bool false, .slice none 0 0, .slice none 0 0]) Try.underlying33 (by kernel_rfl) rfl (by omega)

/-- A row of its own, all that it reads in blocks from lo to hi, its row's cells not among what its elements read. -/
def OwnR {α : Type} [Rp α] (lo hi : Nat) (e : TypeId) (w : World) (v : Value) (xs : List α) : Prop :=
  ∃ (G : Nat → Prop) (css : List (List Value)), (∀ k, G k → lo ≤ k ∧ k < hi ∧ v.ownBlock ≠ some k) ∧ (∀ k, v.ownBlock = some k → lo ≤ k ∧ k < hi) ∧ css.length = xs.length ∧
    (∀ i (h : i < xs.length) (h' : i < css.length), Rp.R G w xs[i] css[i]) ∧ xs.length ≤ 140737488355328 ∧ w.ownsRow lo e (Rp.sz α) v xs.length css.flatten
theorem OwnR.of_own {α : Type} [Rp α] {lo : Nat} {e : TypeId} {w : World} {v : Value} {xs : List α} (h : Own (fun _ => False) lo e w v xs) : OwnR lo w.heap.size e w v xs := by
  have hr := h.row_lt
  obtain ⟨G, css, hG, hl, hR, hn, hown⟩ := h
  exact ⟨G, css, fun k hk => ⟨(hG k hk).2.1.resolve_left id, (hG k hk).1, (hG k hk).2.2⟩, hr, hl, hR, hn, hown⟩
theorem OwnR.keep {α : Type} [Rp α] {lo hi : Nat} {e : TypeId} {w w' : World} {v : Value} {xs : List α} (h : OwnR lo hi e w v xs) (g : Agr (fun k => lo ≤ k ∧ k < hi) w w') : OwnR lo hi e w' v xs := by
  obtain ⟨G, css, hG, hv, hl, hR, hn, h1, h2⟩ := h
  refine ⟨G, css, hG, hv, hl, fun i h h' => Rp.keep (fun k hk hlt => g k ⟨(hG k hk).1, (hG k hk).2.1⟩ hlt) (hR i h h'), hn, h1, ?_⟩
  rcases h2 with h2 | ⟨q, cap, cur, rfl, hbg, hg, hr⟩
  · exact .inl h2
  · exact .inr ⟨q, cap, cur, rfl, hbg, by rw [g q (hv q rfl) (Array.getElem?_eq_some_iff.1 hg).1]; exact hg, hr⟩
theorem OwnR.sl {α : Type} [Rp α] {lo hi : Nat} {e : TypeId} {w : World} {v : Value} {xs : List α} (h : OwnR lo hi e w v xs) : Sl (fun k => lo ≤ k ∧ k < hi) w v xs := by
  obtain ⟨G, css, hG, hv, hl, hR, hn, hown⟩ := h
  rcases id hown.2 with ⟨rfl, h0⟩ | ⟨g, cap, cur, rfl, hbg, hg, hnc, hcm, hcs, htake⟩
  · obtain rfl : xs = [] := List.eq_nil_of_length_eq_zero h0
    exact Sl.nil _ _
  · have hlt : g < w.heap.size := (Array.getElem?_eq_some_iff.1 hg).1
    refine Sl.mk rfl (hv g rfl) hlt hnc (by unfold maxLen at hcm; exact hcm) fun i hi => ?_
    refine ⟨css[i]'(by omega), Rp.wide (fun k hk hGk => ⟨(hG k hGk).1, (hG k hGk).2.1⟩) (hR i hi (by omega)), fun j hj => ?_⟩
    have := hown.cells (g := g) rfl (i * Rp.sz α + j) _ (flatten_cells xs css hl hR i (by omega) j hj)
    rw [Addr.add_lit] at this; simpa using this
theorem OwnR.low {α : Type} [Rp α] {lo lo' hi : Nat} {e : TypeId} {w : World} {v : Value} {xs : List α} (h : OwnR lo hi e w v xs) (hb : lo' ≤ lo) : OwnR lo' hi e w v xs := by
  obtain ⟨G, css, hG, hv, hl, hR, hn, h1, h2⟩ := h
  refine ⟨G, css, fun k hk => ⟨Nat.le_trans hb (hG k hk).1, (hG k hk).2⟩, fun k hk => ⟨Nat.le_trans hb (hv k hk).1, (hv k hk).2⟩, hl, hR, hn, h1, ?_⟩
  rcases h2 with h2 | ⟨g, cap, cur, hq, hbg, hr⟩
  · exact .inl h2
  · exact .inr ⟨g, cap, cur, hq, Nat.le_trans hb hbg, hr⟩
/-- A block whose memory lies in blocks from lo to hi. -/
structure BkS where
  b : Bk
  lo : Nat
  hi : Nat
instance : Rp BkS where
  sz := 14
  R F w x cs := ∃ sa sn sc ja jn jc, cs = x.b.c (.slice sa sn sc) (.slice ja jn jc) ∧ x.b.wf ∧ (∀ k, x.lo ≤ k → k < x.hi → F k ∧ k < w.heap.size) ∧
    Sl (fun k => x.lo ≤ k ∧ k < x.hi ∧ (Value.slice ja jn jc).ownBlock ≠ some k) w (.slice sa sn sc) x.b.stmts ∧ OwnR x.lo x.hi 45 w (.slice ja jn jc) x.b.jump.args
  len h := by obtain ⟨_, _, _, _, _, _, rfl, _⟩ := h; rfl
  keep g h := by
    obtain ⟨la, ln, lc, ba, bn, bc, h1, h2, h3, h4, h5⟩ := h
    refine ⟨la, ln, lc, ba, bn, bc, h1, h2, fun k hk hk' => ⟨(h3 k hk hk').1, ?_⟩, h4.keep (fun k hk hlt => g k (h3 k hk.1 hk.2.1).1 hlt), h5.keep (fun k hk hlt => g k (h3 k hk.1 hk.2).1 hlt)⟩
    have e := g k (h3 k hk hk').1 (h3 k hk hk').2
    rw [Array.getElem?_eq_getElem (h3 k hk hk').2] at e
    exact (Array.getElem?_eq_some_iff.1 e).1
  wide g h := by
    obtain ⟨la, ln, lc, ba, bn, bc, h1, h2, h3, h4, h5⟩ := h
    exact ⟨la, ln, lc, ba, bn, bc, h1, h2, fun k hk hk' => ⟨g k (h3 k hk hk').2 (h3 k hk hk').1, (h3 k hk hk').2⟩, h4, h5⟩
theorem bks_bk {F : Nat → Prop} {w : World} {x : BkS} {cs : List Value} (h : Rp.R F w x cs) : Rp.R F w x.b cs := by
  obtain ⟨la, ln, lc, ba, bn, bc, h1, h2, h3, h4, h5⟩ := h
  exact ⟨la, ln, lc, ba, bn, bc, h1, h2, h4.wide (fun k _ hk => (h3 k hk.1 hk.2.1).1), h5.sl.wide (fun k _ hk => (h3 k hk.1 hk.2).1)⟩
theorem Sl.map {α β : Type} [Rp α] [Rp β] {f : α → β} (hz : Rp.sz α = Rp.sz β) (hf : ∀ {F : Nat → Prop} {w : World} {x : α} {cs : List Value}, Rp.R F w x cs → Rp.R F w (f x) cs) {F : Nat → Prop} {w : World} {v : Value} {xs : List α} (h : Sl F w v xs) : Sl F w v (xs.map f) := by
  obtain ⟨a, cap, hv, h1, h2, h3, h⟩ := h
  refine ⟨a, cap, by simpa using hv, by simpa using h1, h2, h3, fun i hi => ?_⟩
  obtain ⟨b, off, ha, hF, hlt, cs, hR, hc⟩ := h i (by simpa using hi)
  exact ⟨b, off, ha, hF, hlt, cs, by rw [List.getElem_map]; exact hf hR, by rw [← hz]; exact hc⟩
def RisingB (l : List BkS) : Prop := l.Pairwise (fun x y => x.hi ≤ y.lo)
theorem RisingB.snoc {l : List BkS} {x : BkS} (h : RisingB l) (hx : ∀ y ∈ l, y.hi ≤ x.lo) : RisingB (l ++ [x]) := by
  unfold RisingB; rw [List.pairwise_append]
  exact ⟨h, List.pairwise_singleton _ _, fun a ha b hb => by simp at hb; subst hb; exact hx a ha⟩
theorem own_hiB {base : Nat} {e : TypeId} {w : World} {v : Value} {xs : List BkS} {x : BkS} (h : Own (fun _ => False) base e w v xs) (hx : x ∈ xs) : x.hi ≤ w.heap.size ∨ x.hi ≤ x.lo := by
  obtain ⟨G, css, hG, hl, hR, hn, hown⟩ := h
  obtain ⟨i, hi, rfl⟩ := List.getElem_of_mem hx
  obtain ⟨la, ln, lc, ba, bn, bc, h1, h2, h3, h4, h5⟩ := hR i hi (by omega)
  by_cases q : xs[i].lo < xs[i].hi
  · left; have := (h3 (xs[i].hi - 1) (by omega) (by omega)).2; omega
  · right; omega
/-- Elements that read no memory, of cells that are one each. -/
class Leaf (α : Type) [Rp α] : Prop where
  any : ∀ {G G' : Nat → Prop} {w w' : World} {x : α} {cs : List Value}, Rp.R G w x cs → Rp.R G' w' x cs
  one : ∀ (G : Nat → Prop) (w : World) (x : α) cs, Rp.R G w x cs → ∀ u ∈ cs, u.oneCell' = true
instance : Leaf Ty := ⟨fun h => h, by rintro G w x cs ⟨rfl, _⟩ u hu; simp [Ty.c] at hu; rcases hu with rfl | rfl <;> rfl⟩
instance : Leaf Opd := ⟨fun h => h, by rintro G w x cs ⟨rfl, _⟩ u hu; simp only [Opd.c, List.mem_cons, List.not_mem_nil, or_false] at hu; rcases hu with rfl | rfl | rfl | rfl | rfl <;> rfl⟩
instance : Leaf St := ⟨fun h => h, by rintro G w x cs ⟨rfl, _⟩ u hu; exact List.all_eq_true.1 (show x.c.all (·.oneCell') = true from rfl) u hu⟩

/-- append([]T{}, ys...): a copy; nothing that was there is written. -/
theorem wpList_cp {P : Program} {α : Type} [Rp α] [Leaf α] {ops : Array Oper} {rest : List Oper} {o : Oper} {a : Act} {w : World} {Q : Exit → Act → World → Prop} {s x : Operand} {t e : TypeId} {bytes : Nat}
    (T : SlT P t e (Rp.sz α) bytes) (hgd : o.guard = none) (ho : o.op = .call { callee := .builtin .append, args := #[s, x], argTypes := #[t, t] })
    {g : Nat} (hs : a.eval s = .slice (some ⟨g, 0, none⟩) 0 0) {ax : Option Addr} {m c : Nat} (hx : a.eval x = .slice ax m c) (hg : w.heap[g]? = some (.cells #[] e)) {Fy : Nat → Prop} {ys : List α} (hsl : Sl Fy w (.slice ax m c) ys)
    (hbytes : m * bytes ≤ 140737488355328) (hnm : m ≤ 140737488355328)
    (h : ∀ v' x', Sl (fun k => k = g ∨ w.heap.size ≤ k) (ext w x') v' ys → Own (fun _ => False) g e (ext w x') v' ys → wpList P ops Q rest (a.put o.dst v') (ext w x')) : wpList P ops Q (o :: rest) a w := by
  have hlen := hsl.len
  have hgl : g < w.heap.size := (Array.getElem?_eq_some_iff.1 hg).1
  obtain ⟨v', w', hr, hO, hgr⟩ := run_appS (P := P) (ty := o.type) (α := α) (F := fun _ => False) (base := g) T Leaf.one (Own.zero hg (Nat.le_refl _)) (Nat.le_of_lt hgl) hsl (Gy := fun _ => False) (fun _ _ h => Leaf.any h) (fun _ h => h.elim) (by simpa using hbytes) (by simpa using hnm)
  have key : Grow w w' ∧ ∀ k, v'.ownBlock = some k → k = g ∨ w.heap.size ≤ k := by
    by_cases hm : 0 < m
    · obtain ⟨b, off, css, rfl, hl, hR, hc, hfl⟩ := hsl.rows hm
      obtain ⟨i, z, hi, hz, hsize, hby, hzs⟩ := T.ex
      subst hby
      have hr' := run_append_grow (P := P) w t o.type e i z T.ut hi hz ⟨g, 0, none⟩ 0 0 [] (by simp) (fun j v hv => by simp at hv) ⟨b, off, none⟩ m c css.flatten (by rw [hsize]; exact hfl) hc (by omega) (by omega) (growslice_fits (by omega) (by simpa using hbytes))
      rw [hr] at hr'; injection hr' with e1 e2
      subst e1 e2
      exact ⟨(Grow.refl w).drew.alloc _, fun k hk => by simp [Value.ownBlock] at hk; right; omega⟩
    · obtain rfl : m = 0 := by omega
      obtain ⟨i, z, hi, hz, hsize, hby, hzs⟩ := T.ex
      have hr' : (Builtin.append_ #[t, t] o.type #[.slice (some ⟨g, 0, none⟩) 0 0, .slice ax 0 c]).run P w = .ok (.slice (some ⟨g, 0, none⟩) 0 0) w := run_append_nothing (P := P) w t t o.type e i T.ut hi (some ⟨g, 0, none⟩) 0 0 (Nat.le_refl _) (.slice ax 0 c) ⟨.inl ⟨e, T.ut⟩, fun w' => by simp [Builtin.lenOf], by cases ax <;> simp [Builtin.firstCells, loadCells, loadCellsFrom], by cases ax <;> simp [Builtin.firstCells, loadCells, loadCellsFrom], by simp, fun u hu => by cases hu⟩
      rw [hr] at hr'; injection hr' with e1 e2
      subst e1 e2
      exact ⟨Grow.refl _, fun k hk => by simp [Value.ownBlock] at hk; exact Or.inl hk.symm⟩
  obtain ⟨hgw, hob⟩ := key
  obtain ⟨x', rfl⟩ := ext_of_grow hgw
  refine wpList_plain hgd fun _ hK => ?_
  unfold Oper.wp execOp
  simp only [ho, resolve, invoke, builtin, Sem.run_bind, Sem.run_pure, Result.andThen_ok, List.map_toArray, List.map_cons, List.map_nil, hs, hx, hr]
  refine hK _ _ (h v' x' ?_ (by simpa using hO))
  obtain ⟨G, css, hG, hl, hR, hn, hown⟩ := hO
  simp only [List.nil_append] at *
  rcases id hown.2 with ⟨rfl, h0⟩ | ⟨q, cap, cur, rfl, hbg, hq, hnc, hcm, hcs, htake⟩
  · obtain rfl : ys = [] := List.eq_nil_of_length_eq_zero h0
    exact Sl.nil _ _
  · refine Sl.mk rfl (hob q rfl) (Array.getElem?_eq_some_iff.1 hq).1 hnc (by unfold maxLen at hcm; exact hcm) fun i hi => ?_
    refine ⟨css[i]'(by omega), Leaf.any (hR i hi (by omega)), fun j hj => ?_⟩
    have := hown.cells (g := q) rfl (i * Rp.sz α + j) _ (flatten_cells ys css hl hR i (by omega) j hj)
    rw [Addr.add_lit] at this; simpa using this
theorem mid_of {W V w : World} {o : Obj} {b : Nat} (h1 : Grow W V) (h2 : Grow (V.alloc o) w) (hb : b = V.heap.size) : ∃ xa xb, b = W.heap.size + xa.k ∧ w = ext ((ext W xa).alloc o) xb := by
  obtain ⟨xa, rfl⟩ := ext_of_grow h1
  obtain ⟨xb, rfl⟩ := ext_of_grow h2
  exact ⟨xa, xb, by rw [hb, size_ext], rfl⟩
theorem Own.turn {α : Type} [Rp α] {base : Nat} {e : TypeId} {B : World} {c c' : Obj} {x : Ext} {v : Value} {xs : List α} (h : Own (fun _ => False) base e (ext (B.alloc c) x) v xs) (hb : B.heap.size < base) : Own (fun _ => False) base e (ext (B.alloc c') x) v xs :=
  h.keep ((AgrS.alloc (AgrS.refl _ _) (by rintro (h | h); exact h; omega) _ _).ext x).agr (Nat.le_of_eq (AgrS.ext (AgrS.alloc (AgrS.refl (fun _ => False) B) (fun h => h) c c') x).size.symm)
theorem Sl.turn {α : Type} [Rp α] {F : Nat → Prop} {B : World} {c c' : Obj} {x : Ext} {v : Value} {xs : List α} (h : Sl F (ext (B.alloc c) x) v xs) (hb : ¬ F B.heap.size) : Sl F (ext (B.alloc c') x) v xs :=
  h.keep ((AgrS.alloc (AgrS.refl _ _) hb _ _).ext x).agr
theorem Sl.turn2 {α : Type} [Rp α] {F : Nat → Prop} {B : World} {c c' d : Obj} {x : Ext} {v : Value} {xs : List α} (h : Sl F (ext ((B.alloc c).alloc d) x) v xs) (hb : ¬ F B.heap.size) : Sl F (ext ((B.alloc c').alloc d) x) v xs :=
  h.keep (((AgrS.alloc (AgrS.refl _ _) hb _ _).same d).ext x).agr
theorem mid_sl {W V w : World} {o : Obj} {α : Type} [Rp α] {G : Nat → Prop} {lv : Value} {ys : List α} (h1 : Grow W V) (h2 : Grow (V.alloc o) w) (hs : Sl G w lv ys) (hG : ∀ k, k < w.heap.size → G k → W.heap.size ≤ k ∧ k ≠ V.heap.size) : ∃ xa xb, V.heap.size = W.heap.size + xa.k ∧ w = ext ((ext W xa).alloc o) xb ∧ Sl (fun k => W.heap.size ≤ k ∧ k ≠ W.heap.size + xa.k) w lv ys := by
  obtain ⟨xa, xb, e1, e2⟩ := mid_of h1 h2 rfl
  exact ⟨xa, xb, e1, e2, hs.wide (fun k hk h => by have := hG k hk h; rw [e1] at this; exact this)⟩
theorem Own.open {α : Type} [Rp α] {F : Nat → Prop} {base : Nat} {e : TypeId} {w : World} {v : Value} {xs : List α} (h : Own F base e w v xs) : ∃ a n cap, v = .slice a n cap ∧ Hid (n = xs.length) ∧ n ≤ 140737488355328 ∧ Own F base e w (.slice a n cap) xs := by
  obtain ⟨a, cap, rfl, hl⟩ := h.shape
  exact ⟨a, _, cap, rfl, Lib.hid rfl, hl, h⟩
theorem Own.low {α : Type} [Rp α] {F : Nat → Prop} {base base' : Nat} {e : TypeId} {w : World} {v : Value} {xs : List α} (h : Own F base e w v xs) (hb : base' ≤ base) : Own F base' e w v xs := by
  obtain ⟨G, css, hG, hl, hR, hn, h1, h2⟩ := h
  refine ⟨G, css, fun k hk => ⟨(hG k hk).1, (hG k hk).2.1.imp id (fun h => Nat.le_trans hb h), (hG k hk).2.2⟩, hl, hR, hn, h1, ?_⟩
  rcases h2 with h2 | ⟨g, cap, cur, hv, hbg, hr⟩
  · exact .inl h2
  · exact .inr ⟨g, cap, cur, hv, Nat.le_trans hb hbg, hr⟩
theorem Sl.turn4 {α : Type} [Rp α] {F : Nat → Prop} {B : World} {c c' d : Obj} {x y : Ext} {v : Value} {xs : List α} (h : Sl F (ext ((ext (B.alloc c) x).alloc d) y) v xs) (hb : ¬ F B.heap.size) : Sl F (ext ((ext (B.alloc c') x).alloc d) y) v xs :=
  h.keep ((((AgrS.alloc (AgrS.refl _ _) hb _ _).ext x).same d).ext y).agr
theorem Own.turn4 {α : Type} [Rp α] {base : Nat} {e : TypeId} {B : World} {c c' d : Obj} {x y : Ext} {v : Value} {xs : List α} (h : Own (fun _ => False) base e (ext ((ext (B.alloc c) x).alloc d) y) v xs) (hb : B.heap.size < base) : Own (fun _ => False) base e (ext ((ext (B.alloc c') x).alloc d) y) v xs :=
  h.keep ((((AgrS.alloc (AgrS.refl _ _) (by rintro (h | h); exact h; omega) _ _).ext x).same d).ext y).agr (Nat.le_of_eq ((((AgrS.alloc (AgrS.refl (fun _ => False) B) (fun h => h) c c').ext x).same d).ext y).size.symm)
theorem small_fn {f : Fn} (h : bigFn f = false) : f.locals.length ≤ 30 ∧ f.blocks.length ≤ 30 ∧ ∀ b ∈ f.blocks, b.stmts.length ≤ 30 ∧ b.jump.args.length ≤ 12 := by
  unfold bigFn at h
  simp only [Bool.or_eq_false_iff, decide_eq_false_iff_not, Bool.not_eq_false', List.all_eq_true, Bool.not_eq_true'] at h
  refine ⟨by omega, by omega, fun b hb => ?_⟩
  have := h.2 b hb
  unfold bigBk at this
  simp only [Bool.or_eq_false_iff, decide_eq_false_iff_not] at this
  omega
end Go.Proofs.Ytafcdabiplcjiaa
