/- The ground of the proofs: worlds that only grow, slices that read as lists. -/
import Derived.Test.YthackfblfkpddaaRows
import Derived.WalkKit
import Derived.WalkSpells
import Derived.WalkLawsBesides
import Derived.Deep.QuietTactic
import Derived.BigQuiet
import Derived.Lib.Hide
import Derived.Deep.MidRow
import Derived.Deep.Light
namespace Go.Proofs.Ythackfblfkpddaa
open Go.RowKit
set_option linter.unusedSimpArgs false
set_option linter.unusedVariables false

/-- All that was there is as it was; new memory may have come. -/
def Grow (w w' : World) : Prop := Below w.heap.size w w'
theorem Grow.refl (w : World) : Grow w w := Below.refl _ _
theorem Grow.trans {a b c : World} (h : Grow a b) (k : Grow b c) : Grow a c := Below.trans h (Below.mono k h.size)
theorem Grow.alloc {a b : World} (h : Grow a b) (o : Obj) : Grow a (b.alloc o) := Below.alloc h h.size o
theorem Grow.drew {a b : World} (h : Grow a b) : Grow a b.drew := Below.drew h
theorem Grow.setCell {a b : World} (h : Grow a b) {p : Addr} (hp : a.heap.size ≤ p.block) (u : Value) : Grow a (b.setCell p u) := Below.setCell h hp u
theorem Grow.size {a b : World} (h : Grow a b) : a.heap.size ≤ b.heap.size := Below.size h
theorem Grow.cell {a b : World} (h : Grow a b) {p : Addr} (hp : p.block < a.heap.size) : b.cell? p = a.cell? p := Below.cell h hp
theorem alloc_size (w : World) (o : Obj) : (w.alloc o).heap.size = w.heap.size + 1 := by simp
theorem drew_size (w : World) : w.drew.heap.size = w.heap.size := rfl

/- A region that draws its order, whose operations only read and whose callees return and make memory alone. -/
structure Ext where
  d : Nat
  x : Array Obj
instance : Inhabited Ext := ⟨⟨0, #[]⟩⟩
/-- W with more memory, behind some draws. -/
def ext (W : World) (x : Ext) : World := { W with heap := W.heap ++ x.x, drawn := x.d }
theorem grow_ext (W : World) (x : Ext) : Grow W (ext W x) :=
  ⟨rfl, rfl, rfl, by simp [ext], fun k hk => by simp only [ext]; rw [Array.getElem?_append_left hk]⟩
theorem ext_of_grow {W w : World} (h : Grow W w) : ∃ x, w = ext W x := by
  refine ⟨⟨w.drawn, w.heap.extract W.heap.size w.heap.size⟩, ?_⟩
  have e : w.heap = W.heap ++ w.heap.extract W.heap.size w.heap.size := by
    apply Array.ext_getElem?
    intro i
    by_cases hi : i < W.heap.size
    · rw [Array.getElem?_append_left hi]; exact h.block i hi
    · rw [Array.getElem?_append_right (by omega)]
      by_cases hj : i < w.heap.size
      · rw [Array.getElem?_extract, if_pos (by omega)]; congr 1; omega
      · rw [Array.getElem?_eq_none (by omega), Array.getElem?_eq_none (by simp; omega)]
  have h1 := h.os; have h2 := h.tape; have h3 := h.output
  cases w; cases W
  simp only [ext] at *
  subst h1 h2 h3
  rw [← e]
theorem ite_ok_bool (c : Prop) [Decidable c] (x y : Bool) (w : World) : (if c then Result.ok (Next.value (Value.bool x)) w else Result.ok (Next.value (Value.bool y)) w) = Result.ok (Next.value (Value.bool (if c then x else y))) w := by split <;> rfl
/-- How many blocks have come. -/
def Ext.k (x : Ext) : Nat := x.x.size
theorem size_ext (W : World) (x : Ext) : (ext W x).heap.size = W.heap.size + x.k := by simp [ext, Ext.k]
/-- Block b is the next one. -/
class EqW (b : Nat) (W : World) : Prop where
  eq : b = W.heap.size
instance (W : World) : EqW W.heap.size W := ⟨rfl⟩
instance {b : Nat} {W : World} {o : Obj} [h : EqW b W] : EqW (b + 1) (W.alloc o) := ⟨by rw [h.eq]; simp⟩
instance {b : Nat} {W : World} {x : Ext} [h : EqW b W] : EqW (b + x.k) (ext W x) := ⟨by rw [h.eq, size_ext]⟩
instance {b : Nat} {W : World} [h : EqW b W] : EqW b W.drew := ⟨h.eq⟩
/-- Block b was there: found by instances, so that the walk's simp needs no side proof. -/
class LtW (b : Nat) (W : World) : Prop where
  lt : b < W.heap.size
instance {b : Nat} {W : World} {o : Obj} [h : LtW b W] : LtW b (W.alloc o) := ⟨by have := h.lt; simp; omega⟩
instance {b : Nat} {W : World} {o : Obj} [h : EqW b W] : LtW b (W.alloc o) := ⟨by have := h.eq; simp; omega⟩
instance {b : Nat} {W : World} {x : Ext} [h : LtW b W] : LtW b (ext W x) := ⟨Nat.lt_of_lt_of_le h.lt (Below.size (grow_ext W x))⟩
instance {b : Nat} {W : World} [h : LtW b W] : LtW b W.drew := ⟨h.lt⟩
instance {b : Nat} {W : World} {a : Addr} {v : Value} [h : LtW b W] : LtW b (W.setCell a v) := ⟨by have := h.lt; simpa [World.setCell] using this⟩
theorem ext_cell {W : World} {x : Ext} {b o : Nat} [h : LtW b W] : (ext W x).cell? ⟨b, o, none⟩ = W.cell? ⟨b, o, none⟩ := Below.cell (grow_ext W x) (p := ⟨b, o, none⟩) h.lt
theorem ext_frozen {W : World} {x : Ext} {b o : Nat} [h : LtW b W] : (ext W x).frozen? ⟨b, o, none⟩ = W.frozen? ⟨b, o, none⟩ := Below.frozen (grow_ext W x) (p := ⟨b, o, none⟩) h.lt
theorem ext_setCell {W : World} {x : Ext} {b o : Nat} {v : Value} [h : LtW b W] : (ext W x).setCell ⟨b, o, none⟩ v = ext (W.setCell ⟨b, o, none⟩ v) x := by
  have hlt := h.lt
  simp only [ext, World.setCell]
  congr 1
  apply Array.ext_getElem?
  intro i
  by_cases hi : i < W.heap.size
  · rw [Array.getElem?_append_left (by simpa using hi), Array.getElem?_modify, Array.getElem?_modify, Array.getElem?_append_left hi]
  · rw [Array.getElem?_append_right (by simpa using hi), Array.getElem?_modify, if_neg (by omega), Array.getElem?_append_right (by omega), Array.size_modify]
theorem alloc_cell {W : World} {b o : Nat} {c : Obj} [h : LtW b W] : (W.alloc c).cell? ⟨b, o, none⟩ = W.cell? ⟨b, o, none⟩ := World.cell?_alloc_past _ _ _ h.lt
theorem alloc_frozen {W : World} {b o : Nat} {c : Obj} [h : LtW b W] : (W.alloc c).frozen? ⟨b, o, none⟩ = W.frozen? ⟨b, o, none⟩ := World.frozen?_alloc_past _ _ _ h.lt
theorem alloc_setCell {W : World} {b o : Nat} {c : Obj} {v : Value} [h : LtW b W] : (W.alloc c).setCell ⟨b, o, none⟩ v = (W.setCell ⟨b, o, none⟩ v).alloc c := World.setCell_alloc_past _ _ _ _ h.lt
attribute [go_sem] ite_ok_bool
theorem alloc_cell_at {W : World} {b o : Nat} {c : Array Value} {t : TypeId} [h : EqW b W] : (W.alloc (.cells c t)).cell? ⟨b, o, none⟩ = c[o]? := World.cell?_alloc_at _ _ _ _ h.eq
theorem alloc_frozen_at {W : World} {b o : Nat} {c : Array Value} {t : TypeId} [h : EqW b W] : (W.alloc (.cells c t)).frozen? ⟨b, o, none⟩ = false := World.frozen?_alloc_at _ _ _ _ h.eq
theorem alloc_setCell_at {W : World} {b o : Nat} {c : Array Value} {t : TypeId} {v : Value} [h : EqW b W] : (W.alloc (.cells c t)).setCell ⟨b, o, none⟩ v = W.alloc (.cells (c.setIfInBounds o v) t) := World.setCell_alloc_at _ _ _ _ _ h.eq
attribute [go_sem, simp] size_ext
attribute [go_sem high] alloc_cell_at alloc_frozen_at alloc_setCell_at ext_cell ext_frozen ext_setCell alloc_cell alloc_frozen alloc_setCell
theorem Grow.ext {a b : World} (h : Grow a b) (x : Ext) : Grow a (ext b x) := h.trans (grow_ext b x)
theorem wp_region_ext {P : Program} {id : Nat} {Q : Exit → Act → World → Prop} {a : Act} {w : World} {l : List Oper} (hm : P.follows .mixedOrders = true) (hB : Region.lexB .any l.toArray = true)
    (h : wpQuiet P l.toArray (fun w' => ∃ x, w' = ext w x) (fun a' => ∀ w', Grow w w' → Q .normal a' w') l a) : (Code.region id l.toArray true).wp P Q a w :=
  wp_region_quiet (C := fun w' => ∃ x, w' = ext w x) hm hB (ext_of_grow (Grow.refl w).drew) (by
    have e : (fun a' => ∀ w', (∃ x, w' = ext w x) → Q .normal a' w') = (fun a' => ∀ w', Grow w w' → Q .normal a' w') := by
      funext a'; refine propext ⟨fun k w' g => k w' (ext_of_grow g), fun k w' ⟨x, hx⟩ => k w' (hx ▸ grow_ext w x)⟩
    rw [e]; exact h)

/-- The call returns v, and old memory is as it was. -/
def Ret (w : World) (v : Value) (e : Ending) (w' : World) : Prop := e = .returned v ∧ Grow w w'
theorem Ret.mk {w w' : World} {v v' : Value} (h : v' = v) (g : Grow w w') : Ret w v (.returned v') w' := ⟨by rw [h], g⟩
theorem Ret.int {w w' : World} {k : IntKind} {a b : Int} (h : a = b) (g : Grow w w') : Ret w (.int k b) (.returned (.int k a)) w' := ⟨by rw [h], g⟩
theorem Ret.bool {w w' : World} {a b : Bool} (h : a = b) (g : Grow w w') : Ret w (.bool b) (.returned (.bool a)) w' := ⟨by rw [h], g⟩

theorem ext_call {P : Program} {f : FuncId} {args : Array Value} {W : World} {x : Ext} {v : Value} (h : Calls P f args (ext W x) (Ret (ext W x) v)) :
    Calls P f args (ext W x) fun e w'' => e = .returned v ∧ ∃ x, w'' = ext W x :=
  h.mono fun _ _ ⟨he, hg⟩ => ⟨he, ext_of_grow ((grow_ext W x).trans hg)⟩
theorem post_of {P : Program} {fn : Func} {a : Act} {w w0 : World} {v v' : Value}
    (hr : (results fn a.tmps).run P w = .ok v' w) (hd : a.defers = []) (g : Grow w0 w) (hv : v' = v) : bodyPost P fn (Ret w0 v) .ret a w :=
  bodyPost_ret hr hd ⟨by rw [hv], g⟩

theorem lt_of_cell {w : World} {b o : Nat} {v : Value} (h : w.cell? ⟨b, o, none⟩ = some v) : b < w.heap.size := by
  by_cases hb : b < w.heap.size
  · exact hb
  · simp only [World.cell?] at h; rw [Array.getElem?_eq_none (by omega)] at h; cases h

/-- On the blocks of F the two worlds agree. -/
def Agr (F : Nat → Prop) (w w' : World) : Prop := ∀ b, F b → b < w.heap.size → w'.heap[b]? = w.heap[b]?
theorem Agr.refl (F : Nat → Prop) (w : World) : Agr F w w := fun _ _ _ => rfl
theorem Agr.grow {F : Nat → Prop} {a b c : World} (h : Agr F a b) (g : Grow b c) : Agr F a c := fun k hF hk => by
  have e := h k hF hk
  have : k < b.heap.size := by
    by_cases q : k < b.heap.size
    · exact q
    · rw [Array.getElem?_eq_none (by omega), Array.getElem?_eq_getElem hk] at e; cases e
  rw [g.block k this, e]
theorem Agr.of_grow {F : Nat → Prop} {b c : World} (g : Grow b c) : Agr F b c := (Agr.refl F b).grow g
theorem Agr.trans {F : Nat → Prop} {a b c : World} (h : Agr F a b) (g : Agr F b c) : Agr F a c := fun k hF hk => by
  have e := h k hF hk
  have : k < b.heap.size := by
    by_cases q : k < b.heap.size
    · exact q
    · rw [Array.getElem?_eq_none (by omega), Array.getElem?_eq_getElem hk] at e; cases e
  rw [g k hF this, e]
/-- What was in F, or has come from B on. -/
def Fr (F : Nat → Prop) (B : Nat) (b : Nat) : Prop := F b ∨ B ≤ b
def Old (w : World) (b : Nat) : Prop := b < w.heap.size

/-- How a Go type of 'sz' cells reads; all memory that it reads lies in blocks of F. -/
class Rp (α : Type) where
  sz : Nat
  R : (Nat → Prop) → World → α → List Value → Prop
  len : ∀ {F w a cs}, R F w a cs → cs.length = sz
  keep : ∀ {F w w' a cs}, Agr F w w' → R F w a cs → R F w' a cs
  wide : ∀ {F F' : Nat → Prop} {w a cs}, (∀ b, b < w.heap.size → F b → F' b) → R F w a cs → R F' w a cs

/-- The cells from b, o on hold cs. -/
def CellsAt (w : World) (b o : Nat) (cs : List Value) : Prop := ∀ j (hj : j < cs.length), w.cell? ⟨b, o + j, none⟩ = some cs[j]

/-- The slice value v reads as the list xs. -/
def Sl {α : Type} [Rp α] (F : Nat → Prop) (w : World) (v : Value) (xs : List α) : Prop :=
  ∃ (a : Option Addr) (cap : Nat), v = .slice a xs.length cap ∧ xs.length ≤ cap ∧ cap ≤ 9223372036854775807 ∧ (a = none → cap = 0) ∧
    ∀ i (h : i < xs.length), ∃ b off, a = some ⟨b, off, none⟩ ∧ F b ∧ b < w.heap.size ∧ ∃ cs : List Value, Rp.R F w xs[i] cs ∧ CellsAt w b (off + i * Rp.sz α) cs

theorem Sl.keep {α : Type} [Rp α] {F : Nat → Prop} {w w' : World} {v : Value} {xs : List α} (g : Agr F w w') (h : Sl F w v xs) : Sl F w' v xs := by
  obtain ⟨a, cap, hv, h1, h2, h3, h⟩ := h
  refine ⟨a, cap, hv, h1, h2, h3, fun i hi => ?_⟩
  obtain ⟨b, off, ha, hF, hlt, cs, hR, hc⟩ := h i hi
  have e := g b hF hlt
  refine ⟨b, off, ha, hF, ?_, cs, Rp.keep g hR, fun j hj => ?_⟩
  · by_cases q : b < w'.heap.size
    · exact q
    · rw [Array.getElem?_eq_none (by omega), Array.getElem?_eq_getElem hlt] at e; cases e
  · rw [← hc j hj]; simp only [World.cell?]; rw [e]
theorem Sl.mono {α : Type} [Rp α] {F : Nat → Prop} {w w' : World} {v : Value} {xs : List α} (h : Sl F w v xs) (g : Grow w w') : Sl F w' v xs := h.keep (Agr.of_grow g)
theorem Sl.wide {α : Type} [Rp α] {F F' : Nat → Prop} {w : World} {v : Value} {xs : List α} (g : ∀ b, b < w.heap.size → F b → F' b) (h : Sl F w v xs) : Sl F' w v xs := by
  obtain ⟨a, cap, hv, h1, h2, h3, h⟩ := h
  refine ⟨a, cap, hv, h1, h2, h3, fun i hi => ?_⟩
  obtain ⟨b, off, ha, hF, hlt, cs, hR, hc⟩ := h i hi
  exact ⟨b, off, ha, g b hlt hF, hlt, cs, Rp.wide g hR, hc⟩
theorem Sl.old {α : Type} [Rp α] {F : Nat → Prop} {w : World} {v : Value} {xs : List α} (h : Sl F w v xs) : Sl (Old w) w v xs := h.wide fun b hb _ => hb
theorem Sl.nil {α : Type} [Rp α] (F : Nat → Prop) (w : World) : Sl F w (.slice none 0 0) ([] : List α) :=
  ⟨none, 0, rfl, Nat.le_refl _, by omega, fun _ => rfl, (fun i h => by cases h)⟩

/-- A slice's value, opened; the length under a name of its own. -/
theorem Sl.open {α : Type} [Rp α] {F : Nat → Prop} {w : World} {v : Value} {xs : List α} (h : Sl F w v xs) :
    ∃ (a : Option Addr) (n cap : Nat), v = .slice a n cap ∧ Hid (n = xs.length) ∧ n ≤ 9223372036854775807 ∧ n ≤ cap ∧ cap ≤ 9223372036854775807 ∧ Sl F w (.slice a n cap) xs := by
  obtain ⟨a, cap, rfl, h1, h2, h3⟩ := id h
  exact ⟨a, _, cap, rfl, rfl, Nat.le_trans h1 h2, h1, h2, h⟩

theorem Sl.len {α : Type} [Rp α] {F : Nat → Prop} {w : World} {a : Option Addr} {n cap : Nat} {xs : List α} (h : Sl F w (.slice a n cap) xs) : n = xs.length := by
  obtain ⟨a', cap', hv, _⟩ := h
  injection hv

theorem Sl.get {α : Type} [Rp α] {F : Nat → Prop} {w : World} {a : Option Addr} {n cap : Nat} {xs : List α} (h : Sl F w (.slice a n cap) xs) (i : Nat) (hi : i < n) :
    ∃ b off x cs, a = some ⟨b, off, none⟩ ∧ Hid (xs[i]? = some x) ∧ LtW b w ∧ Rp.R F w x cs ∧ CellsAt w b (off + i * Rp.sz α) cs := by
  obtain ⟨a', cap', hv, _, _, _, h⟩ := h
  injection hv with h1 h2 h3; subst h1 h2 h3
  obtain ⟨b, off, ha, hF, hlt, cs, hR, hc⟩ := h i hi
  exact ⟨b, off, _, cs, ha, List.getElem?_eq_getElem hi, ⟨hlt⟩, hR, hc⟩

theorem drop_cons {α : Type} {xs : List α} {k : Nat} {x : α} (h : Hid (xs[k]? = some x)) : xs.drop k = x :: xs.drop (k + 1) := by
  obtain ⟨hk, rfl⟩ := List.getElem?_eq_some_iff.1 h.out
  exact List.drop_eq_getElem_cons hk
theorem drop_all {α : Type} {xs : List α} {k n : Nat} (h : Hid (n = xs.length)) (hk : n ≤ k) : xs.drop k = [] :=
  List.drop_eq_nil_of_le (by rw [← h.out]; exact hk)

def U8 (n : Int) : Prop := 0 ≤ n ∧ n ≤ 255
def I64 (n : Int) : Prop := -9223372036854775808 ≤ n ∧ n ≤ 9223372036854775807
/-- The n cells from b, off on. -/
def row? (w : World) (b off n : Nat) : Option (List Value) := match w.heap[b]? with
  | some (.cells c _ _) => if off + n ≤ c.size then some ((c.toList.drop off).take n) else none
  | _ => none
theorem row_alloc_at {W : World} {c : Array Value} {t : TypeId} {b off n : Nat} [h : EqW b W] : row? (W.alloc (.cells c t)) b off n = if off + n ≤ c.size then some ((c.toList.drop off).take n) else none := by
  have e := h.eq; subst e
  have q : (W.alloc (.cells c t)).heap[W.heap.size]? = some (.cells c t) := by show (W.heap.push _)[_]? = _; simp
  unfold row?; rw [q]
theorem row_alloc {W : World} {o : Obj} {b off n : Nat} [h : LtW b W] : row? (W.alloc o) b off n = row? W b off n := by
  unfold row?; rw [Below.heap_alloc _ _ _ h.lt]
theorem row_ext {W : World} {x : Ext} {b off n : Nat} [h : LtW b W] : row? (ext W x) b off n = row? W b off n := by
  unfold row?; rw [(grow_ext W x).block b h.lt]
theorem row_drew {W : World} {b off n : Nat} : row? W.drew b off n = row? W b off n := rfl
theorem row_cell {w : World} {b off n : Nat} {cs : List Value} (h : row? w b off n = some cs) : cs.length = n ∧ CellsAt w b off cs := by
  unfold row? at h
  cases e : w.heap[b]? with
  | none => rw [e] at h; cases h
  | some o =>
    rw [e] at h
    cases o <;> simp only [] at h <;> try (cases h; done)
    rename_i c t f
    by_cases q : off + n ≤ c.size
    · rw [if_pos q] at h
      injection h with h; subst h
      have hl : (List.take n (List.drop off c.toList)).length = n := by simp; omega
      refine ⟨hl, fun j hj => ?_⟩
      rw [hl] at hj
      have hj' : off + j < c.toList.length := by simp; omega
      simp only [World.cell?, e]
      have : c.toList[off + j]? = some ((List.take n (List.drop off c.toList))[j]'(by rw [hl]; exact hj)) := by
        rw [List.getElem_take, List.getElem_drop, List.getElem?_eq_getElem hj']
      rw [← this]; simp
    · rw [if_neg q] at h; cases h
theorem row_of_cells {w : World} {b off : Nat} {cs : List Value} (h : CellsAt w b off cs) (i n : Nat) (hi : i + n ≤ cs.length ∧ 0 < n) : row? w b (off + i) n = some ((cs.drop i).take n) := by
  have h0 := h i (by omega)
  unfold row?
  cases e : w.heap[b]? with
  | none => simp only [World.cell?, e] at h0; cases h0
  | some o =>
    cases o <;> (simp only [World.cell?, e] at h0) <;> try (cases h0; done)
    rename_i c t f
    have hsz : off + i + n ≤ c.size := by
      have hl := h (i + n - 1) (by omega)
      simp only [World.cell?, e] at hl
      have : off + (i + n - 1) < c.size := by
        by_cases q : off + (i + n - 1) < c.size
        · exact q
        · rw [Array.getElem?_eq_none (by omega)] at hl; simp at hl
      omega
    simp only [if_pos hsz]
    congr 1
    apply List.ext_getElem?
    intro j
    by_cases hj : j < n
    · have hc := h (i + j) (by omega)
      simp only [World.cell?, e] at hc
      rw [List.getElem?_take_of_lt hj, List.getElem?_take_of_lt hj, List.getElem?_drop, List.getElem?_drop, List.getElem?_eq_getElem (by omega : i + j < cs.length)]
      simpa [Nat.add_assoc] using hc
    · rw [List.getElem?_take_eq_none (by omega), List.getElem?_take_eq_none (by omega)]
def lcfSlow (a : Addr) (n : Nat) : Sem (Array Value) := loadCellsFrom a 0 n #[]
theorem run_lcf (P : Program) (w : World) (b off n : Nat) : Sem.run P (loadCellsFrom ⟨b, off, none⟩ 0 n #[]) w = match row? w b off n with
    | some cs => .ok cs.toArray w
    | none => Sem.run P (lcfSlow ⟨b, off, none⟩ n) w := by
  cases h : row? w b off n with
  | none => rfl
  | some cs =>
    obtain ⟨hl, hc⟩ := row_cell h
    subst hl
    exact run_loadCells_list (P := P) w ⟨b, off, none⟩ cs (fun j v hv => by
      obtain ⟨hj, rfl⟩ := List.getElem?_eq_some_iff.1 hv
      rw [Addr.add_lit]; exact hc j hj)
/-- The cells from b, off on become vs. -/
def put? (w : World) (b off : Nat) (vs : List Value) : Option World := match w.heap[b]? with
  | some (.cells c _ f) => if off + vs.length ≤ c.size ∧ f = (0, 0) ∧ vs.all (·.oneCell') = true then some (w.setCells b off vs) else none
  | _ => none
def spl (c : Array Value) : Nat → List Value → Array Value
  | _, [] => c
  | o, v :: r => spl (c.setIfInBounds o v) (o + 1) r
theorem setCells_alloc_at (W : World) (t : TypeId) : ∀ (vs : List Value) (c : Array Value) (off : Nat), (W.alloc (.cells c t)).setCells W.heap.size off vs = W.alloc (.cells (spl c off vs) t)
  | [], c, off => rfl
  | v :: r, c, off => by
    have e : (W.alloc (.cells c t)).setCell ⟨W.heap.size, off, none⟩ v = W.alloc (.cells (c.setIfInBounds off v) t) := World.setCell_alloc_at c t _ off v rfl
    rw [World.setCells, e, setCells_alloc_at W t r _ (off + 1)]; rfl
theorem spl_eq : ∀ (vs : List Value) (c : Array Value) (off : Nat), off + vs.length ≤ c.size → spl c off vs = (c.toList.take off ++ (vs ++ c.toList.drop (off + vs.length))).toArray
  | [], c, off, h => by simp [spl]
  | v :: r, c, off, h => by
    have hlt : off < c.size := by simp at h; omega
    rw [spl, spl_eq r _ (off + 1) (by simp at h ⊢; omega)]
    congr 1
    have e1 : List.take (off + 1) (c.setIfInBounds off v).toList = List.take off c.toList ++ [v] := by
      rw [Array.toList_setIfInBounds, List.take_add_one, List.take_set_of_le (Nat.le_refl _)]
      simp [List.getElem?_set, hlt]
    have e2 : List.drop (off + 1 + r.length) (c.setIfInBounds off v).toList = List.drop (off + (v :: r).length) c.toList := by
      rw [Array.toList_setIfInBounds, List.drop_set_of_lt (by omega)]
      congr 1; simp; omega
    rw [e1, e2]; simp
theorem put_alloc_at {W : World} {c : Array Value} {t : TypeId} {b off : Nat} {vs : List Value} [h : EqW b W] : put? (W.alloc (.cells c t)) b off vs =
    if off + vs.length ≤ c.size ∧ vs.all (·.oneCell') = true then some (W.alloc (.cells (c.toList.take off ++ (vs ++ c.toList.drop (off + vs.length))).toArray t)) else none := by
  have e := h.eq; subst e
  have q : (W.alloc (.cells c t)).heap[W.heap.size]? = some (.cells c t) := by show (W.heap.push _)[_]? = _; simp
  unfold put?; rw [q]
  by_cases k : off + vs.length ≤ c.size ∧ vs.all (·.oneCell') = true
  · rw [if_pos k]; show (if off + vs.length ≤ c.size ∧ ((0, 0) : Nat × Nat) = (0, 0) ∧ vs.all (·.oneCell') = true then _ else _) = _
    rw [if_pos ⟨k.1, rfl, k.2⟩, setCells_alloc_at, spl_eq _ _ _ k.1]
  · rw [if_neg k]; show (if off + vs.length ≤ c.size ∧ ((0, 0) : Nat × Nat) = (0, 0) ∧ vs.all (·.oneCell') = true then _ else _) = _
    rw [if_neg (fun z => k ⟨z.1, z.2.2⟩)]
theorem setCells_alloc {W : World} {o : Obj} {b : Nat} : ∀ (vs : List Value) (off : Nat) (W : World), b < W.heap.size → (W.alloc o).setCells b off vs = (W.setCells b off vs).alloc o
  | [], off, W, h => rfl
  | v :: r, off, W, h => by
    rw [World.setCells, World.setCell_alloc_past _ _ _ _ h, setCells_alloc (W := W) r (off + 1) _ (by simpa [World.setCell] using h)]; rfl
theorem put_alloc {W : World} {o : Obj} {b off : Nat} {vs : List Value} [h : LtW b W] : put? (W.alloc o) b off vs = (put? W b off vs).map (fun w => w.alloc o) := by
  unfold put?; rw [Below.heap_alloc _ _ _ h.lt]
  cases W.heap[b]? with
  | none => rfl
  | some q => cases q <;> try rfl
              rename_i c t f
              by_cases k : off + vs.length ≤ c.size ∧ f = (0, 0) ∧ vs.all (·.oneCell') = true
              · simp only [if_pos k, Option.map_some]; rw [setCells_alloc (W := W) vs off W h.lt]
              · simp only [if_neg k]; rfl
theorem setCells_ext {x : Ext} {b : Nat} : ∀ (vs : List Value) (off : Nat) (W : World), b < W.heap.size → (ext W x).setCells b off vs = ext (W.setCells b off vs) x
  | [], off, W, h => rfl
  | v :: r, off, W, h => by
    have : LtW b W := ⟨h⟩
    rw [World.setCells, ext_setCell, setCells_ext r (off + 1) _ (by simpa [World.setCell] using h)]; rfl
theorem put_ext {W : World} {x : Ext} {b off : Nat} {vs : List Value} [h : LtW b W] : put? (ext W x) b off vs = (put? W b off vs).map (fun w => ext w x) := by
  unfold put?; rw [(grow_ext W x).block b h.lt]
  cases W.heap[b]? with
  | none => rfl
  | some q => cases q <;> try rfl
              rename_i c t f
              by_cases k : off + vs.length ≤ c.size ∧ f = (0, 0) ∧ vs.all (·.oneCell') = true
              · simp only [if_pos k, Option.map_some]; rw [setCells_ext vs off W h.lt]
              · simp only [if_neg k]; rfl
theorem setCells_drew {b : Nat} : ∀ (vs : List Value) (off : Nat) (W : World), W.drew.setCells b off vs = (W.setCells b off vs).drew
  | [], off, W => rfl
  | v :: r, off, W => by rw [World.setCells, World.setCell_drew, setCells_drew r (off + 1)]; rfl
theorem put_drew {W : World} {b off : Nat} {vs : List Value} : put? W.drew b off vs = (put? W b off vs).map World.drew := by
  unfold put?
  show (match W.heap[b]? with | some (.cells c _ f) => if off + vs.length ≤ c.size ∧ f = (0, 0) ∧ vs.all (·.oneCell') = true then some (W.drew.setCells b off vs) else none | _ => none) = _
  cases W.heap[b]? with
  | none => rfl
  | some q => cases q <;> try rfl
              rename_i c t f
              by_cases k : off + vs.length ≤ c.size ∧ f = (0, 0) ∧ vs.all (·.oneCell') = true
              · simp only [if_pos k, Option.map_some]; rw [setCells_drew vs off W]
              · simp only [if_neg k]; rfl
def scSlow (a : Addr) (vs : List Value) : Sem Unit := storeCells a vs 0
theorem run_sc (P : Program) (w : World) (b off : Nat) (vs : List Value) : Sem.run P (storeCells ⟨b, off, none⟩ vs 0) w = match put? w b off vs with
    | some w' => .ok () w'
    | none => Sem.run P (scSlow ⟨b, off, none⟩ vs) w := by
  cases h : put? w b off vs with
  | none => rfl
  | some w' =>
    unfold put? at h
    cases e : w.heap[b]? with
    | none => rw [e] at h; cases h
    | some o =>
      rw [e] at h
      cases o <;> simp only [] at h <;> try (cases h; done)
      rename_i c t f
      by_cases q : off + vs.length ≤ c.size ∧ f = (0, 0) ∧ vs.all (·.oneCell') = true
      · rw [if_pos q] at h
        injection h with h; subst h
        obtain ⟨q1, q2, q3⟩ := q
        have := run_storeCells_cells (P := P) b off vs 0 w (fun j hj => by
            simp only [World.cell?, e]; rw [Array.getElem?_eq_getElem (by omega)]; rfl)
          (fun j hj => by simp only [World.frozen?, e, q2]; simp) (fun v hv => (List.all_eq_true.1 q3) v hv)
        simpa using this
      · rw [if_neg q] at h; cases h
def storeRow (a : Addr) (vs : List Value) : Sem Unit := storeCells a vs 0
theorem sc_row (a : Addr) (u v : Value) (vs : List Value) : storeCells a (u :: v :: vs) 0 = storeRow a (u :: v :: vs) := rfl
theorem run_storeRow (P : Program) (w : World) (b off : Nat) (vs : List Value) : Sem.run P (storeRow ⟨b, off, none⟩ vs) w = match put? w b off vs with
    | some w' => .ok () w'
    | none => Sem.run P (scSlow ⟨b, off, none⟩ vs) w := run_sc P w b off vs
def loadRow (a : Addr) (n : Nat) : Sem (Array Value) := loadCellsFrom a 0 n #[]
theorem lc_row (a : Addr) (n : Nat) : loadCellsFrom a 0 n #[] = loadRow a n := rfl
theorem run_loadRow (P : Program) (w : World) (b off n : Nat) : Sem.run P (loadRow ⟨b, off, none⟩ n) w = match row? w b off n with
    | some cs => .ok cs.toArray w
    | none => Sem.run P (lcfSlow ⟨b, off, none⟩ n) w := run_lcf P w b off n
theorem oc_int (k : IntKind) (n : Int) : (Value.int k n).oneCell' = true := rfl
theorem oc_bool (b : Bool) : (Value.bool b).oneCell' = true := rfl
theorem oc_slice (a : Option Addr) (n c : Nat) : (Value.slice a n c).oneCell' = true := rfl
theorem oc_string (b : ByteArray) : (Value.string b).oneCell' = true := rfl
theorem oc_pointer (a : Option Addr) : (Value.pointer a).oneCell' = true := rfl
attribute [go_sem] oc_int oc_bool oc_slice oc_string oc_pointer
attribute [go_sem high] sc_row lc_row run_storeRow run_loadRow
attribute [go_sem] row_alloc_at row_alloc row_ext row_drew put_alloc_at put_alloc put_ext put_drew
theorem CellsAt.nil (w : World) (b o : Nat) : CellsAt w b o [] := fun j hj => by cases hj
theorem CellsAt.cons {w : World} {b o : Nat} {c : Value} {cs : List Value} (h : w.cell? ⟨b, o, none⟩ = some c) (t : CellsAt w b (o + 1) cs) : CellsAt w b o (c :: cs) := fun j hj => by
  cases j with
  | zero => simpa using h
  | succ j => have := t j (by simpa using hj); simpa [Nat.add_assoc, Nat.add_comm 1 j] using this
theorem Sl.mk {α : Type} [Rp α] {F : Nat → Prop} {w : World} {b off cap n : Nat} {xs : List α} (hn : n = xs.length) (hF : F b) (hb : b < w.heap.size) (hcap : n ≤ cap) (hm : cap ≤ 9223372036854775807)
    (h : ∀ i (h : i < xs.length), ∃ cs : List Value, Rp.R F w xs[i] cs ∧ CellsAt w b (off + i * Rp.sz α) cs) : Sl F w (.slice (some ⟨b, off, none⟩) n cap) xs := by
  subst hn
  exact ⟨_, cap, rfl, hcap, hm, (fun e => by cases e), fun i hi => ⟨b, off, rfl, hF, hb, h i hi⟩⟩
theorem Sl.one {α : Type} [Rp α] {F : Nat → Prop} {w : World} {b off cap : Nat} {x : α} {cs : List Value} (hF : F b) (hb : b < w.heap.size) (hcap : 1 ≤ cap) (hm : cap ≤ 9223372036854775807)
    (hR : Rp.R F w x cs) (hc : CellsAt w b off cs) : Sl F w (.slice (some ⟨b, off, none⟩) 1 cap) [x] :=
  Sl.mk rfl hF hb hcap hm fun i hi => by
    obtain rfl : i = 0 := by simp at hi; exact hi
    exact ⟨cs, hR, by simpa using hc⟩
theorem Sl.two {α : Type} [Rp α] {F : Nat → Prop} {w : World} {b off cap : Nat} {x y : α} {cs ds : List Value} (hF : F b) (hb : b < w.heap.size) (hcap : 2 ≤ cap) (hm : cap ≤ 9223372036854775807)
    (hR : Rp.R F w x cs) (hc : CellsAt w b off cs) (hR' : Rp.R F w y ds) (hc' : CellsAt w b (off + Rp.sz α) ds) : Sl F w (.slice (some ⟨b, off, none⟩) 2 cap) [x, y] :=
  Sl.mk rfl hF hb hcap hm fun i hi => by
    obtain rfl | rfl : i = 0 ∨ i = 1 := by simp at hi; omega
    · exact ⟨cs, hR, by simpa using hc⟩
    · exact ⟨ds, hR', by simpa using hc'⟩
/-- Worlds of one size that agree on F: own boxes may differ. -/
structure AgrS (F : Nat → Prop) (w w' : World) : Prop where
  size : w'.heap.size = w.heap.size
  agr : Agr F w w'
theorem AgrS.refl (F : Nat → Prop) (w : World) : AgrS F w w := ⟨rfl, Agr.refl F w⟩
theorem AgrS.alloc {F : Nat → Prop} {w w' : World} (h : AgrS F w w') (hn : ¬ F w.heap.size) (c c' : Obj) : AgrS F (w.alloc c) (w'.alloc c') :=
  ⟨by simp [h.size], fun b hF hb => by
    have hne : b ≠ w.heap.size := fun e => hn (e ▸ hF)
    have hlt : b < w.heap.size := by simp at hb; omega
    rw [Below.heap_alloc _ _ _ hlt, Below.heap_alloc _ _ _ (by rw [h.size]; exact hlt), h.agr b hF hlt]⟩
theorem AgrS.same {F : Nat → Prop} {w w' : World} (h : AgrS F w w') (c : Obj) : AgrS F (w.alloc c) (w'.alloc c) :=
  ⟨by simp [h.size], fun b hF hb => by
    by_cases hlt : b < w.heap.size
    · rw [Below.heap_alloc _ _ _ hlt, Below.heap_alloc _ _ _ (by rw [h.size]; exact hlt), h.agr b hF hlt]
    · have e : b = w.heap.size := by simp at hb; omega
      subst e
      show (w'.heap.push c)[_]? = (w.heap.push c)[_]?
      rw [Array.getElem?_push, Array.getElem?_push, h.size]; simp⟩
theorem AgrS.ext {F : Nat → Prop} {w w' : World} (h : AgrS F w w') (x : Ext) : AgrS F (ext w x) (ext w' x) :=
  ⟨by show (w'.heap ++ x.x).size = (w.heap ++ x.x).size; simp [h.size], fun b hF hb => by
    show (w'.heap ++ x.x)[b]? = (w.heap ++ x.x)[b]?
    by_cases hlt : b < w.heap.size
    · rw [Array.getElem?_append_left hlt, Array.getElem?_append_left (by rw [h.size]; exact hlt), h.agr b hF hlt]
    · have hs := h.size; rw [Array.getElem?_append_right (by omega), Array.getElem?_append_right (by omega), hs]⟩

/-- The call returns a value of which Φ holds, and old memory is as it was. -/
def RetP (w : World) (Φ : Value → World → Prop) (e : Ending) (w' : World) : Prop := ∃ v, e = .returned v ∧ Φ v w' ∧ Grow w w'
theorem RetP.mk {w w' : World} {Φ : Value → World → Prop} {v : Value} (h : Φ v w') (g : Grow w w') : RetP w Φ (.returned v) w' := ⟨v, rfl, h, g⟩
theorem postP_of {P : Program} {fn : Func} {a : Act} {w w0 : World} {v : Value} {Φ : Value → World → Prop}
    (hr : (results fn a.tmps).run P w = .ok v w) (hd : a.defers = []) (g : Grow w0 w) (hv : Φ v w) : bodyPost P fn (RetP w0 Φ) .ret a w :=
  bodyPost_ret hr hd ⟨v, rfl, hv, g⟩
end Go.Proofs.Ythackfblfkpddaa
