/- Layer 14: the program of the examples of calls. -/
import Derived.Test.YthackfblfkpddaaTypes
import Derived.Test.YthackfblfkpddaaOwn
import Derived.Test.YthackfblfkpddaaRI
namespace Go.Proofs.Ythackfblfkpddaa
open Go.RowKit
set_option linter.unusedSimpArgs false
set_option linter.unusedVariables false

/-- A row of the call's own as a slice. -/
theorem sl_of {α : Type} [Rp α] {F : Nat → Prop} {w : World} {b : Nat} {e : TypeId} {cells : Array Value} (xs : List α) (css : List (List Value)) (hl : css.length = xs.length) (hR : ∀ i (h : i < xs.length) (h' : i < css.length), Rp.R F w xs[i] css[i]) (hF : F b)
    (hg : w.heap[b]? = some (.cells cells e)) (hc : cells.toList = css.flatten) (hm : xs.length ≤ 9223372036854775807) : Sl F w (.slice (some ⟨b, 0, none⟩) xs.length xs.length) xs := by
  refine ⟨_, xs.length, rfl, Nat.le_refl _, hm, (fun h => by cases h), fun i hi => ⟨b, 0, rfl, hF, (Array.getElem?_eq_some_iff.1 hg).1, css[i]'(by omega), hR i hi (by omega), fun j hj => ?_⟩⟩
  have h := flatten_cells xs css hl hR i (by omega) j hj
  simp only [World.cell?, hg, Nat.zero_add]
  rw [← Array.getElem?_toList, hc]
  exact h
abbrev exTs' : List Ty := [⟨1, 0⟩, ⟨2, 0⟩, ⟨4, 1⟩]
abbrev exObj' : Obj := .cells #[.int .u8 1, .int .u8 0, .int .u8 2, .int .u8 0, .int .u8 4, .int .u8 1] 23
set_option maxHeartbeats 400000 in
theorem law14_example' (w : World) : Calls Try.prog 34 #[] w (fun e w' => e = .returned (.slice (some ⟨w.heap.size, 0, none⟩) 3 3) ∧ w' = w.alloc exObj') := by
  go_enter Try.func34, Try.ntmps34
  go_wp2
  go_ret
  exact ⟨rfl, rfl⟩
abbrev opz' : Opd := ⟨0, 0, ⟨0, false, 0⟩⟩
abbrev callJ (args : List Opd) (dest : Pl) : Ju := ⟨4, opz', 1, 1, 0, args, dest⟩
abbrev endJ : Ju := ⟨3, opz', 0, 0, 0, [], ⟨0, false, 0⟩⟩
abbrev endB : Bk := ⟨[], endJ⟩
abbrev twoF0 (args : List Opd) (dest : Pl) : Fn := ⟨0, false, exTs', [⟨[], callJ args dest⟩, endB]⟩
abbrev twoTs : List Ty := [⟨1, 0⟩, ⟨4, 1⟩, ⟨2, 0⟩]
abbrev twoF1 (n : Int) : Fn := ⟨n, false, twoTs, [endB]⟩
abbrev nil0 : Value := .slice none 0 0
theorem heap_new (w : World) (o : Obj) : (w.alloc o).heap[w.heap.size]? = some o := Array.getElem?_push_size
/-- Blocks that are there, but for B. -/
def Nb (B : Nat) (w : World) (k : Nat) : Prop := k < w.heap.size ∧ k ≠ B
theorem sl_new1 {α : Type} [Rp α] {w : World} {b : Nat} [hb : EqW b w] {B : Nat} {e : TypeId} {cells : Array Value} {x : α} {cx : List Value} (hB : B < w.heap.size) (hx : Rp.R (Nb B (w.alloc (.cells cells e))) (w.alloc (.cells cells e)) x cx) (hc : cells.toList = cx) : Sl (Nb B (w.alloc (.cells cells e))) (w.alloc (.cells cells e)) (.slice (some ⟨b, 0, none⟩) 1 1) [x] :=
  sl_of [x] [cx] rfl (fun i h h' => by
    obtain rfl : i = 0 := by simpa using h
    exact hx) ⟨by rw [hb.eq]; simp, by have := hb.eq; omega⟩ (by rw [hb.eq]; exact heap_new w _) (by simpa using hc) (by simp)
theorem sl_new2 {α : Type} [Rp α] {w : World} {b : Nat} [hb : EqW b w] {B : Nat} {e : TypeId} {cells : Array Value} {x y : α} {cx cy : List Value} (hB : B < w.heap.size) (hx : Rp.R (Nb B (w.alloc (.cells cells e))) (w.alloc (.cells cells e)) x cx) (hy : Rp.R (Nb B (w.alloc (.cells cells e))) (w.alloc (.cells cells e)) y cy) (hc : cells.toList = cx ++ cy) : Sl (Nb B (w.alloc (.cells cells e))) (w.alloc (.cells cells e)) (.slice (some ⟨b, 0, none⟩) 2 2) [x, y] :=
  sl_of [x, y] [cx, cy] rfl (fun i h h' => by
    obtain rfl | rfl : i = 0 ∨ i = 1 := by simp at h; omega
    · exact hx
    · exact hy) ⟨by rw [hb.eq]; simp, by have := hb.eq; omega⟩ (by rw [hb.eq]; exact heap_new w _) (by simpa using hc) (by simp)
theorem sl_new3 {α : Type} [Rp α] {w : World} {b : Nat} [hb : EqW b w] {B : Nat} {e : TypeId} {cells : Array Value} {x y z : α} {cx cy cz : List Value} (hB : B < w.heap.size) (hx : Rp.R (Nb B (w.alloc (.cells cells e))) (w.alloc (.cells cells e)) x cx) (hy : Rp.R (Nb B (w.alloc (.cells cells e))) (w.alloc (.cells cells e)) y cy) (hz : Rp.R (Nb B (w.alloc (.cells cells e))) (w.alloc (.cells cells e)) z cz) (hc : cells.toList = cx ++ (cy ++ cz)) : Sl (Nb B (w.alloc (.cells cells e))) (w.alloc (.cells cells e)) (.slice (some ⟨b, 0, none⟩) 3 3) [x, y, z] :=
  sl_of [x, y, z] [cx, cy, cz] rfl (fun i h h' => by
    obtain rfl | rfl | rfl : i = 0 ∨ i = 1 ∨ i = 2 := by simp at h; omega
    · exact hx
    · exact hy
    · exact hz) ⟨by rw [hb.eq]; simp, by have := hb.eq; omega⟩ (by rw [hb.eq]; exact heap_new w _) (by simpa using hc) (by simp)
theorem Sl.stay {α : Type} [Rp α] {B : Nat} {w w' : World} {v : Value} {xs : List α} (g : Grow w w') (h : Sl (Nb B w) w v xs) : Sl (Nb B w') w' v xs := (h.mono g).wide (fun q hq hf => ⟨hq, hf.2⟩)
theorem Sl.new {α : Type} [Rp α] {B : Nat} {w : World} {o : Obj} {v : Value} {xs : List α} (h : Sl (Nb B w) w v xs) : Sl (Nb B (w.alloc o)) (w.alloc o) v xs := h.stay (Grow.alloc (Grow.refl _) _)
theorem Sl.nb {α : Type} [Rp α] {B : Nat} {w w' : World} {v : Value} {xs : List α} (h : Sl (Old w) w v xs) (hB : w.heap.size ≤ B) (g : Grow w w') : Sl (Nb B w') w' v xs := (h.mono g).wide (fun q hq hf => ⟨hq, by have : q < w.heap.size := hf; omega⟩)
/-- The functions of a program in a row of its own: nothing that they lead to lies in that row, or in the block B. -/
def PrAt (B b : Nat) (w : World) (fs : List Fn) : Prop := b < w.heap.size ∧ (b ≠ B ∧ ∃ (cells : Array Value) (e : TypeId), w.heap[b]? = some (.cells cells e)) ∧ ∀ i (h : i < fs.length), ∃ cs, Rp.R (fun k => k ≠ b ∧ k ≠ B) w fs[i] cs ∧ CellsAt w b (i * 4) cs
theorem PrAt.keep {B b : Nat} {w w' : World} {fs : List Fn} (h : PrAt B b w fs) (g : Agr (fun k => k ≠ B) w w') (hs : w.heap.size ≤ w'.heap.size) : PrAt B b w' fs := by
  obtain ⟨h1, ⟨h2, hc, he, hr⟩, h3⟩ := h
  refine ⟨by omega, ⟨h2, hc, he, by rw [g b h2 h1]; exact hr⟩, fun i hi => ?_⟩
  obtain ⟨cs, hR, hc⟩ := h3 i hi
  refine ⟨cs, Rp.keep (fun k hk hlt => g k hk.2 hlt) hR, fun j hj => ?_⟩
  have := hc j hj
  unfold World.cell? at this ⊢
  dsimp only at this ⊢
  rw [g b h2 h1]; exact this
theorem PrAt.sl {B b : Nat} {w : World} {fs : List Fn} (h : PrAt B b w fs) (hm : fs.length ≤ 9223372036854775807) : Sl (fun _ => True) w (.slice (some ⟨b, 0, none⟩) fs.length fs.length) fs := by
  obtain ⟨h1, h2, h3⟩ := h
  refine ⟨_, fs.length, rfl, Nat.le_refl _, hm, (fun h => by cases h), fun i hi => ⟨b, 0, rfl, trivial, h1, ?_⟩⟩
  obtain ⟨cs, hR, hc⟩ := h3 i hi
  exact ⟨cs, Rp.wide (fun _ _ _ => trivial) hR, by rw [Nat.zero_add]; exact hc⟩
theorem PrAt.new2 {B : Nat} {w : World} {b : Nat} [hb : EqW b w] {e : TypeId} {cells : Array Value} {x y : Fn} {cx cy : List Value} (hB : B < w.heap.size) (hx : Rp.R (Nb B w) w x cx) (hy : Rp.R (Nb B w) w y cy) (hc : cells.toList = cx ++ cy) : PrAt B b (w.alloc (.cells cells e)) [x, y] := by
  have he := hb.eq
  have hg : (w.alloc (.cells cells e)).heap[b]? = some (.cells cells e) := by rw [he]; exact heap_new w _
  have hxl := Rp.len hx
  have hyl := Rp.len hy
  have hk : ∀ {z : Fn} {cz : List Value}, Rp.R (Nb B w) w z cz → Rp.R (fun k => k ≠ b ∧ k ≠ B) (w.alloc (.cells cells e)) z cz := fun hz => Rp.keep (Agr.of_grow (Grow.alloc (Grow.refl _) _)) (Rp.wide (fun q hq hf => ⟨by have : q < w.heap.size := hf.1; omega, hf.2⟩) hz)
  refine ⟨by rw [he]; simp, ⟨by omega, cells, e, hg⟩, fun i hi => ?_⟩
  obtain rfl | rfl : i = 0 ∨ i = 1 := by simp at hi; omega
  · refine ⟨cx, hk hx, fun j hj => ?_⟩
    simp only [World.cell?, hg, Nat.zero_mul, Nat.zero_add]
    rw [← Array.getElem?_toList, hc, List.getElem?_append_left hj, List.getElem?_eq_getElem hj]
    rfl
  · refine ⟨cy, hk hy, fun j hj => ?_⟩
    have h4 : cx.length = 4 := hxl
    simp only [World.cell?, hg, Nat.one_mul]
    rw [← Array.getElem?_toList, hc, List.getElem?_append_right (by omega), show 4 + j - cx.length = j by omega, List.getElem?_eq_getElem hj]
    rfl
theorem u0 : U8 0 := ⟨by decide, by decide⟩
theorem i0 : I64 0 := ⟨by decide, by decide⟩
theorem pl0_wf : (⟨0, false, 0⟩ : Pl).wf := ⟨i0, u0⟩
theorem opz_wf : (⟨0, 0, ⟨0, false, 0⟩⟩ : Opd).wf := ⟨u0, i0, pl0_wf⟩
theorem endJ_wf : endJ.wf := ⟨⟨by decide, by decide⟩, opz_wf, i0, i0, i0, pl0_wf⟩
theorem endB_wf : endB.wf := ⟨endJ_wf⟩
theorem endB_R (F : Nat → Prop) (w : World) : Rp.R F w endB (Bk.c endB nil0 nil0) := ⟨none, 0, 0, none, 0, 0, rfl, endB_wf, Sl.nil _ _, Sl.nil _ _⟩
theorem callB_R {F : Nat → Prop} {w : World} {args : List Opd} {dest : Pl} {a : Option Addr} {n c : Nat} (hw : (callJ args dest).wf) (h : Sl F w (.slice a n c) args) : Rp.R F w (⟨[], callJ args dest⟩ : Bk) (Bk.c ⟨[], callJ args dest⟩ nil0 (.slice a n c)) := ⟨none, 0, 0, a, n, c, rfl, ⟨hw⟩, Sl.nil _ _, h⟩
theorem fn_R {F : Nat → Prop} {w : World} {x : Fn} {a b : Option Addr} {n c m d : Nat} (hw : I64 x.params) (h1 : Sl F w (.slice a n c) x.locals) (h2 : Sl F w (.slice b m d) x.blocks) : Rp.R F w x (Fn.c x (.slice a n c) (.slice b m d)) := ⟨a, n, c, b, m, d, rfl, ⟨hw⟩, h1, h2⟩
theorem ty_R {F : Nat → Prop} {w : World} (k t : Int) (h1 : U8 k) (h2 : U8 t) : Rp.R F w (⟨k, t⟩ : Ty) (Ty.c ⟨k, t⟩) := ⟨rfl, ⟨h1, h2⟩⟩
/-- What holds of each operation's value in the last statement. -/
def twoΦ (B : Nat) (args : List Opd) (dest : Pl) (av : Value) (i : Nat) (v : Value) (w : World) : Prop :=
  match i with
  | 0 => ∃ b, v = .slice (some ⟨b, 0, none⟩) 3 3 ∧ Sl (Nb B w) w v exTs'
  | 1 => v = (callJ args dest).v av
  | 2 => v = (⟨[], callJ args dest⟩ : Bk).v nil0 av
  | 3 => v = endB.v nil0 nil0
  | 4 => ∃ b, v = .slice (some ⟨b, 0, none⟩) 2 2 ∧ Sl (Nb B w) w v [⟨[], callJ args dest⟩, endB]
  | 5 => ∃ b c, v = (twoF0 args dest).v (.slice (some ⟨b, 0, none⟩) 3 3) (.slice (some ⟨c, 0, none⟩) 2 2) ∧ Sl (Nb B w) w (.slice (some ⟨b, 0, none⟩) 3 3) exTs' ∧ Sl (Nb B w) w (.slice (some ⟨c, 0, none⟩) 2 2) [(⟨[], callJ args dest⟩ : Bk), endB]
  | 6 => v = (⟨1, 0⟩ : Ty).v
  | 7 => v = (⟨4, 1⟩ : Ty).v
  | 8 => v = (⟨2, 0⟩ : Ty).v
  | 9 => ∃ b, v = .slice (some ⟨b, 0, none⟩) 3 3 ∧ Sl (Nb B w) w v twoTs
  | 10 => v = endB.v nil0 nil0
  | 11 => ∃ b, v = .slice (some ⟨b, 0, none⟩) 1 1 ∧ Sl (Nb B w) w v [endB]
  | 12 => ∃ b c, v = (twoF1 2).v (.slice (some ⟨b, 0, none⟩) 3 3) (.slice (some ⟨c, 0, none⟩) 1 1) ∧ Sl (Nb B w) w (.slice (some ⟨b, 0, none⟩) 3 3) twoTs ∧ Sl (Nb B w) w (.slice (some ⟨c, 0, none⟩) 1 1) [endB]
  | 13 => ∃ b, v = .slice (some ⟨b, 0, none⟩) 2 2 ∧ (PrAt B b w [twoF0 args dest, twoF1 2] ∧ B ≤ b)
  | 14 => ∃ b, v = .agg #[.slice (some ⟨b, 0, none⟩) 2 2] ∧ (PrAt B b w [twoF0 args dest, twoF1 2] ∧ B ≤ b)
  | _ => True
theorem twoΦ_stay (B : Nat) (args : List Opd) (dest : Pl) (av : Value) (i : Nat) (v : Value) (w w' : World) (g : Grow w w') (h : twoΦ B args dest av i v w) : twoΦ B args dest av i v w' := by
  unfold twoΦ at h ⊢
  split at h <;> first
    | exact h
    | (obtain ⟨b, e, s⟩ := h; exact ⟨b, e, s.stay g⟩)
    | (obtain ⟨b, e, s, hb⟩ := h; exact ⟨b, e, s.keep (Agr.of_grow g) g.size, hb⟩)
    | (obtain ⟨b, c, e, s, t⟩ := h; exact ⟨b, c, e, s.stay g, t.stay g⟩)
set_option maxRecDepth 100000 in
set_option maxHeartbeats 8000000 in
theorem law14_two (av : Value) (args : List Opd) (dest : Pl) (w : World) {F : Nat → Prop} (ha : Sl F w av args) (hwf : (callJ args dest).wf) :
    Calls Try.prog 11 #[av, dest.v] w (RetP w fun v w' => ∃ b B, v = .agg #[.slice (some ⟨b, 0, none⟩) 2 2] ∧ w.heap.size ≤ b ∧ PrAt B b w' [twoF0 args dest, twoF1 2]) := by
  have ha0 := ha.old
  clear ha
  obtain ⟨a, n, cap, rfl, Hn, hm, hcap, hcm, ha⟩ := ha0.open
  go_enter Try.func11, Try.ntmps11
  go_upto_region 3 with fail
  refine wp_region_inv 15 (by kernel_rfl) (by kernel_rfl) (fun _ => undef) ?_ (twoΦ (w.heap.size + 1) args dest (.slice a n cap)) (twoΦ_stay _ args dest _) ?_ ?_
  · kernel_rfl
  · intro i hi vs w' hg hΦ K hK
    obtain ⟨xq, rfl⟩ := ext_of_grow hg
    obtain rfl | rfl | rfl | rfl | rfl | rfl | rfl | rfl | rfl | rfl | rfl | rfl | rfl | rfl | rfl : i = 0 ∨ i = 1 ∨ i = 2 ∨ i = 3 ∨ i = 4 ∨ i = 5 ∨ i = 6 ∨ i = 7 ∨ i = 8 ∨ i = 9 ∨ i = 10 ∨ i = 11 ∨ i = 12 ∨ i = 13 ∨ i = 14 := by omega
    · skip
      simp only [putAll, dstOf, pickN, List.range, List.range.loop, Option.bind_some, Act.put, List.setIfInBounds_toArray, List.set_cons_succ, List.set_cons_zero] at hK ⊢
      refine ⟨_, rfl, ?_⟩
      clear hΦ hg hi
      go_wp2_with (first | (go_at_call 34; refine (law14_example' _).mono ?_; rintro e w' ⟨rfl, rfl⟩))
      exact hK _ _ (by (repeat (first | (with_reducible exact Grow.refl _) | assumption | refine Grow.ext ?_ _ | refine Grow.alloc ?_ _ | refine Grow.drew ?_ | refine Grow.setCell ?_ (by first | (simp; done) | (simp; omega)) _ | refine Grow.trans ?_ (by assumption)))) ⟨_, rfl, sl_new3 (by simp only [size_ext, alloc_size, drew_size]; omega) (ty_R 1 0 (by constructor <;> decide) u0) (ty_R 2 0 (by constructor <;> decide) u0) (ty_R 4 1 (by constructor <;> decide) (by constructor <;> decide)) (by rfl)⟩
    · skip
      simp only [putAll, dstOf, pickN, List.range, List.range.loop, Option.bind_some, Act.put, List.setIfInBounds_toArray, List.set_cons_succ, List.set_cons_zero] at hK ⊢
      refine ⟨_, rfl, ?_⟩
      clear hΦ hg hi
      go_wp2_with fail
      exact hK _ _ (by (repeat (first | (with_reducible exact Grow.refl _) | assumption | refine Grow.ext ?_ _ | refine Grow.alloc ?_ _ | refine Grow.drew ?_ | refine Grow.setCell ?_ (by first | (simp; done) | (simp; omega)) _ | refine Grow.trans ?_ (by assumption)))) rfl
    · have p1 : vs 1 = _ := hΦ 1 (by decide)
      simp only [putAll, dstOf, pickN, List.range, List.range.loop, Option.bind_some, Act.put, List.setIfInBounds_toArray, List.set_cons_succ, List.set_cons_zero] at hK ⊢
      refine ⟨_, rfl, ?_⟩
      clear hΦ hg hi
      go_wp2_with fail
      exact hK _ _ (by (repeat (first | (with_reducible exact Grow.refl _) | assumption | refine Grow.ext ?_ _ | refine Grow.alloc ?_ _ | refine Grow.drew ?_ | refine Grow.setCell ?_ (by first | (simp; done) | (simp; omega)) _ | refine Grow.trans ?_ (by assumption)))) rfl
    · skip
      simp only [putAll, dstOf, pickN, List.range, List.range.loop, Option.bind_some, Act.put, List.setIfInBounds_toArray, List.set_cons_succ, List.set_cons_zero] at hK ⊢
      refine ⟨_, rfl, ?_⟩
      clear hΦ hg hi
      go_wp2_with fail
      exact hK _ _ (by (repeat (first | (with_reducible exact Grow.refl _) | assumption | refine Grow.ext ?_ _ | refine Grow.alloc ?_ _ | refine Grow.drew ?_ | refine Grow.setCell ?_ (by first | (simp; done) | (simp; omega)) _ | refine Grow.trans ?_ (by assumption)))) rfl
    · have p2 : vs 2 = _ := hΦ 2 (by decide)
      have p3 : vs 3 = _ := hΦ 3 (by decide)
      simp only [putAll, dstOf, pickN, List.range, List.range.loop, Option.bind_some, Act.put, List.setIfInBounds_toArray, List.set_cons_succ, List.set_cons_zero] at hK ⊢
      refine ⟨_, rfl, ?_⟩
      clear hΦ hg hi
      go_wp2_with fail
      exact hK _ _ (by (repeat (first | (with_reducible exact Grow.refl _) | assumption | refine Grow.ext ?_ _ | refine Grow.alloc ?_ _ | refine Grow.drew ?_ | refine Grow.setCell ?_ (by first | (simp; done) | (simp; omega)) _ | refine Grow.trans ?_ (by assumption)))) ⟨_, rfl, sl_new2 (by simp only [size_ext, alloc_size, drew_size]; omega) (callB_R hwf (ha.nb (by omega) (by (repeat (first | (with_reducible exact Grow.refl _) | assumption | refine Grow.ext ?_ _ | refine Grow.alloc ?_ _ | refine Grow.drew ?_ | refine Grow.setCell ?_ (by first | (simp; done) | (simp; omega)) _ | refine Grow.trans ?_ (by assumption)))))) (endB_R _ _) (by rfl)⟩
    · obtain ⟨b0, p0, s0⟩ := hΦ 0 (by decide)
      obtain ⟨b4, p4, s4⟩ := hΦ 4 (by decide)
      rw [p0] at s0
      rw [p4] at s4
      replace s0 := Lib.hid s0
      replace s4 := Lib.hid s4
      simp only [putAll, dstOf, pickN, List.range, List.range.loop, Option.bind_some, Act.put, List.setIfInBounds_toArray, List.set_cons_succ, List.set_cons_zero] at hK ⊢
      refine ⟨_, rfl, ?_⟩
      clear hΦ hg hi
      go_wp2_with fail
      exact hK _ _ (by (repeat (first | (with_reducible exact Grow.refl _) | assumption | refine Grow.ext ?_ _ | refine Grow.alloc ?_ _ | refine Grow.drew ?_ | refine Grow.setCell ?_ (by first | (simp; done) | (simp; omega)) _ | refine Grow.trans ?_ (by assumption)))) ⟨_, _, rfl, s0.out, s4.out⟩
    · skip
      simp only [putAll, dstOf, pickN, List.range, List.range.loop, Option.bind_some, Act.put, List.setIfInBounds_toArray, List.set_cons_succ, List.set_cons_zero] at hK ⊢
      refine ⟨_, rfl, ?_⟩
      clear hΦ hg hi
      go_wp2_with fail
      exact hK _ _ (by (repeat (first | (with_reducible exact Grow.refl _) | assumption | refine Grow.ext ?_ _ | refine Grow.alloc ?_ _ | refine Grow.drew ?_ | refine Grow.setCell ?_ (by first | (simp; done) | (simp; omega)) _ | refine Grow.trans ?_ (by assumption)))) rfl
    · skip
      simp only [putAll, dstOf, pickN, List.range, List.range.loop, Option.bind_some, Act.put, List.setIfInBounds_toArray, List.set_cons_succ, List.set_cons_zero] at hK ⊢
      refine ⟨_, rfl, ?_⟩
      clear hΦ hg hi
      go_wp2_with fail
      exact hK _ _ (by (repeat (first | (with_reducible exact Grow.refl _) | assumption | refine Grow.ext ?_ _ | refine Grow.alloc ?_ _ | refine Grow.drew ?_ | refine Grow.setCell ?_ (by first | (simp; done) | (simp; omega)) _ | refine Grow.trans ?_ (by assumption)))) rfl
    · skip
      simp only [putAll, dstOf, pickN, List.range, List.range.loop, Option.bind_some, Act.put, List.setIfInBounds_toArray, List.set_cons_succ, List.set_cons_zero] at hK ⊢
      refine ⟨_, rfl, ?_⟩
      clear hΦ hg hi
      go_wp2_with fail
      exact hK _ _ (by (repeat (first | (with_reducible exact Grow.refl _) | assumption | refine Grow.ext ?_ _ | refine Grow.alloc ?_ _ | refine Grow.drew ?_ | refine Grow.setCell ?_ (by first | (simp; done) | (simp; omega)) _ | refine Grow.trans ?_ (by assumption)))) rfl
    · have p6 : vs 6 = _ := hΦ 6 (by decide)
      have p7 : vs 7 = _ := hΦ 7 (by decide)
      have p8 : vs 8 = _ := hΦ 8 (by decide)
      simp only [putAll, dstOf, pickN, List.range, List.range.loop, Option.bind_some, Act.put, List.setIfInBounds_toArray, List.set_cons_succ, List.set_cons_zero] at hK ⊢
      refine ⟨_, rfl, ?_⟩
      clear hΦ hg hi
      go_wp2_with fail
      exact hK _ _ (by (repeat (first | (with_reducible exact Grow.refl _) | assumption | refine Grow.ext ?_ _ | refine Grow.alloc ?_ _ | refine Grow.drew ?_ | refine Grow.setCell ?_ (by first | (simp; done) | (simp; omega)) _ | refine Grow.trans ?_ (by assumption)))) ⟨_, rfl, sl_new3 (by simp only [size_ext, alloc_size, drew_size]; omega) (ty_R 1 0 (by constructor <;> decide) u0) (ty_R 4 1 (by constructor <;> decide) (by constructor <;> decide)) (ty_R 2 0 (by constructor <;> decide) u0) (by rfl)⟩
    · skip
      simp only [putAll, dstOf, pickN, List.range, List.range.loop, Option.bind_some, Act.put, List.setIfInBounds_toArray, List.set_cons_succ, List.set_cons_zero] at hK ⊢
      refine ⟨_, rfl, ?_⟩
      clear hΦ hg hi
      go_wp2_with fail
      exact hK _ _ (by (repeat (first | (with_reducible exact Grow.refl _) | assumption | refine Grow.ext ?_ _ | refine Grow.alloc ?_ _ | refine Grow.drew ?_ | refine Grow.setCell ?_ (by first | (simp; done) | (simp; omega)) _ | refine Grow.trans ?_ (by assumption)))) rfl
    · have p10 : vs 10 = _ := hΦ 10 (by decide)
      simp only [putAll, dstOf, pickN, List.range, List.range.loop, Option.bind_some, Act.put, List.setIfInBounds_toArray, List.set_cons_succ, List.set_cons_zero] at hK ⊢
      refine ⟨_, rfl, ?_⟩
      clear hΦ hg hi
      go_wp2_with fail
      exact hK _ _ (by (repeat (first | (with_reducible exact Grow.refl _) | assumption | refine Grow.ext ?_ _ | refine Grow.alloc ?_ _ | refine Grow.drew ?_ | refine Grow.setCell ?_ (by first | (simp; done) | (simp; omega)) _ | refine Grow.trans ?_ (by assumption)))) ⟨_, rfl, sl_new1 (by simp only [size_ext, alloc_size, drew_size]; omega) (endB_R _ _) (by rfl)⟩
    · obtain ⟨b0, p0, s0⟩ := hΦ 9 (by decide)
      obtain ⟨b4, p4, s4⟩ := hΦ 11 (by decide)
      rw [p0] at s0
      rw [p4] at s4
      replace s0 := Lib.hid s0
      replace s4 := Lib.hid s4
      simp only [putAll, dstOf, pickN, List.range, List.range.loop, Option.bind_some, Act.put, List.setIfInBounds_toArray, List.set_cons_succ, List.set_cons_zero] at hK ⊢
      refine ⟨_, rfl, ?_⟩
      clear hΦ hg hi
      go_wp2_with fail
      exact hK _ _ (by (repeat (first | (with_reducible exact Grow.refl _) | assumption | refine Grow.ext ?_ _ | refine Grow.alloc ?_ _ | refine Grow.drew ?_ | refine Grow.setCell ?_ (by first | (simp; done) | (simp; omega)) _ | refine Grow.trans ?_ (by assumption)))) ⟨_, _, rfl, s0.out, s4.out⟩
    · obtain ⟨b0, c0, p0, s0, t0⟩ := hΦ 5 (by decide)
      obtain ⟨b4, c4, p4, s4, t4⟩ := hΦ 12 (by decide)
      replace s0 := Lib.hid s0
      replace s4 := Lib.hid s4
      replace t0 := Lib.hid t0
      replace t4 := Lib.hid t4
      simp only [putAll, dstOf, pickN, List.range, List.range.loop, Option.bind_some, Act.put, List.setIfInBounds_toArray, List.set_cons_succ, List.set_cons_zero] at hK ⊢
      refine ⟨_, rfl, ?_⟩
      clear hΦ hg hi
      go_wp2_with fail
      exact hK _ _ (by (repeat (first | (with_reducible exact Grow.refl _) | assumption | refine Grow.ext ?_ _ | refine Grow.alloc ?_ _ | refine Grow.drew ?_ | refine Grow.setCell ?_ (by first | (simp; done) | (simp; omega)) _ | refine Grow.trans ?_ (by assumption)))) ⟨_, rfl, PrAt.new2 (by simp only [size_ext, alloc_size, drew_size]; omega) (fn_R (x := twoF0 args dest) i0 s0.out t0.out) (fn_R (x := twoF1 2) ⟨by decide, by decide⟩ s4.out t4.out) (by rfl), by first | omega | (simp only [size_ext, alloc_size, drew_size]; omega)⟩
    · obtain ⟨b0, p0, s0, z0⟩ := hΦ 13 (by decide)
      replace s0 := Lib.hid s0
      simp only [putAll, dstOf, pickN, List.range, List.range.loop, Option.bind_some, Act.put, List.setIfInBounds_toArray, List.set_cons_succ, List.set_cons_zero] at hK ⊢
      refine ⟨_, rfl, ?_⟩
      clear hΦ hg hi
      go_wp2_with fail
      exact hK _ _ (by (repeat (first | (with_reducible exact Grow.refl _) | assumption | refine Grow.ext ?_ _ | refine Grow.alloc ?_ _ | refine Grow.drew ?_ | refine Grow.setCell ?_ (by first | (simp; done) | (simp; omega)) _ | refine Grow.trans ?_ (by assumption)))) ⟨_, rfl, s0.out, z0⟩
  · intro vs w' hg hΦ
    obtain ⟨xq, rfl⟩ := ext_of_grow hg
    obtain ⟨b, p14, s14, z14⟩ := hΦ 14 (by omega)
    replace s14 := Lib.hid s14
    clear hΦ hg
    simp only [putAll, dstOf, pickN, List.range, List.range.loop, Option.bind_some, Act.put, List.setIfInBounds_toArray, List.set_cons_succ, List.set_cons_zero, List.drop_succ_cons, List.drop_zero]
    go_wp2_with fail
    have hfin := s14.out.keep (w' := ext ((((w.alloc (.cells #[.int .i64 dest.loc, .bool dest.deref, .int .u8 dest.field] 26)).alloc (.cells #[.slice (some ⟨b, 0, none⟩) 2 2] 43)).alloc (.cells #[.int .u8 4, .int .u8 0, .int .i64 0, .int .i64 0, .bool false, .int .u8 0, .int .i64 1, .int .i64 1, .int .i64 0, .slice a n cap, .int .i64 dest.loc, .bool dest.deref, .int .u8 dest.field] 46)).alloc (.cells #[.slice none 0 0, .int .u8 3, .int .u8 0, .int .i64 0, .int .i64 0, .bool false, .int .u8 0, .int .i64 0, .int .i64 0, .int .i64 0, .slice none 0 0, .int .i64 0, .bool false, .int .u8 0] 63)) xq) (by refine AgrS.agr (AgrS.ext ?_ _); refine AgrS.same (AgrS.same (AgrS.alloc (AgrS.same (AgrS.refl _ w) _) (by simp) _ _) _) _) (by simp)
    refine postP_of (v := .agg #[.slice (some ⟨b, 0, none⟩) 2 2]) (by simp only [results, Try.results11]; go_simp) rfl (by (repeat (first | (with_reducible exact Grow.refl _) | assumption | refine Grow.ext ?_ _ | refine Grow.alloc ?_ _ | refine Grow.drew ?_ | refine Grow.setCell ?_ (by first | (simp; done) | (simp; omega)) _ | refine Grow.trans ?_ (by assumption)))) ⟨b, _, rfl, by omega, hfin⟩
end Go.Proofs.Ythackfblfkpddaa
