/- Layer 8: how far the loops of ProgramRecursive have come. -/
import Derived.Test.YthackfblfkpddaaLR08b
import Derived.Test.YthackfblfkpddaaTE
import Derived.Test.YthackfblfkpddaaL08r
namespace Go.Proofs.Ythackfblfkpddaa
open Go.RowKit
set_option linter.unusedSimpArgs false
set_option linter.unusedVariables false

/-- The first b blocks of a function are renamed. -/
def stF (c : Int) (f : Fn) (b : Nat) : Fn := ⟨f.params, f.uns, f.locals, (f.blocks.take b).map (bR c) ++ f.blocks.drop b⟩
/-- The functions before k are renamed, and the first b blocks of k. -/
def stL (c : Int) (s : List Fn) (k b : Nat) : List Fn := s.mapIdx (fun i f => if i < k then fR c f else if i = k then stF c f b else f)
theorem stF_zero (c : Int) (f : Fn) : stF c f 0 = f := by simp [stF]
theorem stF_all (c : Int) (f : Fn) : stF c f f.blocks.length = fR c f := by simp [stF, fR]
theorem stF_len (c : Int) (f : Fn) (b : Nat) : (stF c f b).blocks.length = f.blocks.length := by simp [stF]; omega
theorem stF_at {c : Int} {f : Fn} {b : Nat} {x : Bk} (h : f.blocks[b]? = some x) : (stF c f b).blocks[b]? = some x := by
  have hb := (List.getElem?_eq_some_iff.1 h).1
  simp only [stF]
  rw [List.getElem?_append_right (by simp; omega)]
  simp only [List.length_map, List.length_take, Nat.min_eq_left (Nat.le_of_lt hb), Nat.sub_self, List.getElem?_drop, Nat.add_zero]
  exact h
theorem stF_step {c : Int} {f : Fn} {b : Nat} {x : Bk} (h : f.blocks[b]? = some x) : fnB (stF c f b) b (bR c x) = stF c f (b + 1) := by
  have hb := (List.getElem?_eq_some_iff.1 h).1
  have hx := (List.getElem?_eq_some_iff.1 h).2
  simp only [fnB, stF, Fn.mk.injEq, true_and]
  apply List.ext_getElem?
  intro i
  by_cases hib : i = b
  · subst hib
    rw [List.getElem?_set_self (by simp; omega), List.getElem?_append_left (by simp; omega), List.getElem?_map, List.getElem?_take_of_lt (by omega), h]; rfl
  · rw [List.getElem?_set_ne (fun e => hib e.symm)]
    by_cases hlt : i < b
    · rw [List.getElem?_append_left (by simp; omega), List.getElem?_append_left (by simp; omega), List.getElem?_map, List.getElem?_map, List.getElem?_take_of_lt hlt, List.getElem?_take_of_lt (by omega)]
    · rw [List.getElem?_append_right (by simp; omega), List.getElem?_append_right (by simp; omega)]
      simp only [List.length_map, List.length_take, List.getElem?_drop]
      congr 1; omega
theorem stL_len (c : Int) (s : List Fn) (k b : Nat) : (stL c s k b).length = s.length := by simp [stL]
theorem stL_at (c : Int) (s : List Fn) (k b i : Nat) : (stL c s k b)[i]? = (s[i]?).map (fun f => if i < k then fR c f else if i = k then stF c f b else f) := by
  unfold stL; rw [List.getElem?_mapIdx]
theorem stL_here {c : Int} {s : List Fn} {k b : Nat} {f : Fn} (h : s[k]? = some f) : (stL c s k b)[k]? = some (stF c f b) := by
  rw [stL_at, h]; simp
theorem stL_start (c : Int) (s : List Fn) : stL c s 0 0 = s := by
  apply List.ext_getElem?
  intro i
  rw [stL_at]
  cases h : s[i]? with
  | none => rfl
  | some f =>
    by_cases hi : i = 0
    · simp [hi, stF_zero]
    · simp [hi]
theorem stL_next {c : Int} {s : List Fn} {k : Nat} {f : Fn} (h : s[k]? = some f) : stL c s k f.blocks.length = stL c s (k + 1) 0 := by
  apply List.ext_getElem?
  intro i
  rw [stL_at, stL_at]
  by_cases hik : i = k
  · subst hik
    rw [h]; simp [stF_all]
  · cases hs : s[i]? with
    | none => rfl
    | some g =>
      by_cases hlt : i < k
      · simp [hlt, show i < k + 1 by omega]
      · by_cases h1 : i = k + 1
        · simp [h1, stF_zero, show ¬ k + 1 < k by omega]
        · simp [hlt, hik, h1, show ¬ i < k + 1 by omega]
theorem stL_end (c : Int) (s : List Fn) : stL c s s.length 0 = s.map (fR c) := by
  apply List.ext_getElem?
  intro i
  rw [stL_at, List.getElem?_map]
  cases hs : s[i]? with
  | none => rfl
  | some g =>
    have := (List.getElem?_eq_some_iff.1 hs).1
    simp [this]
theorem stL_step {c : Int} {s : List Fn} {k b : Nat} {f : Fn} {x : Bk} (h : s[k]? = some f) (hb : f.blocks[b]? = some x) : (stL c s k b).set k (fnB (stF c f b) b (bR c x)) = stL c s k (b + 1) := by
  have hk := (List.getElem?_eq_some_iff.1 h).1
  apply List.ext_getElem?
  intro i
  by_cases hik : i = k
  · subst hik
    rw [List.getElem?_set_self (by rw [stL_len]; exact hk), stL_here h, stF_step hb]
  · rw [List.getElem?_set_ne (fun e => hik e.symm), stL_at, stL_at]
    cases hs : s[i]? with
    | none => rfl
    | some g => simp [hik]
theorem stL_same {c : Int} {s : List Fn} {k b : Nat} {f : Fn} {x : Bk} (h : s[k]? = some f) (hb : f.blocks[b]? = some x) (hx : bR c x = x) : stL c s k b = stL c s k (b + 1) := by
  rw [← stL_step h hb, hx]
  have h1 : fnB (stF c f b) b x = stF c f b := by
    have := stF_at (c := c) hb
    show Fn.mk _ _ _ ((stF c f b).blocks.set b x) = _
    rw [set_same this]
  rw [h1, set_same (stL_here h)]
/-- The renaming of the exchanged program. -/
theorem qR_eq {p : Pr} {c : Nat} (h0 : 0 < p.funcs.length) (hc : c < p.funcs.length) : (qR p c).funcs = (swL p.funcs c h0 hc).map (fR c) := by
  apply List.ext_getElem?
  intro i
  rw [qR_at hc h0, List.getElem?_map, swL_at]
/-- Four cells written at o. -/
theorem put4 {C : Array Value} {o : Nat} {x0 x1 x2 x3 : Value} (h : o + 4 ≤ C.size) (q : Nat) :
    ((List.take o C.toList ++ x0 :: x1 :: x2 :: x3 :: List.drop (o + 4) C.toList).toArray)[q]? = if o ≤ q ∧ q < o + 4 then [x0, x1, x2, x3][q - o]? else C[q]? := by
  have hl : (List.take o C.toList).length = o := by simp; omega
  simp only [List.getElem?_toArray]
  by_cases h1 : q < o
  · rw [List.getElem?_append_left (by omega), if_neg (by omega), List.getElem?_take_of_lt h1]; simp
  · rw [List.getElem?_append_right (by omega), hl]
    by_cases h2 : q < o + 4
    · rw [if_pos ⟨by omega, h2⟩]
      obtain h3 | h3 | h3 | h3 : q - o = 0 ∨ q - o = 1 ∨ q - o = 2 ∨ q - o = 3 := by omega
      all_goals rw [h3]; rfl
    · rw [if_neg (by omega), show q - o = (q - o - 4) + 1 + 1 + 1 + 1 by omega]
      simp only [List.getElem?_cons_succ, List.getElem?_drop]
      rw [show o + 4 + (q - o - 4) = q by omega]; simp
theorem put4_size {C : Array Value} {o : Nat} {x0 x1 x2 x3 : Value} (h : o + 4 ≤ C.size) : ((List.take o C.toList ++ x0 :: x1 :: x2 :: x3 :: List.drop (o + 4) C.toList).toArray).size = C.size := by
  simp; omega
/-- Two rows of four cells exchanged: first 0, then c. -/
theorem swap_cells {C C1 C2 : Array Value} {c n : Nat} {x y : List Value} (hx : x.length = 4) (hy : y.length = 4) (hn : n * 4 ≤ C.size) (hc : c < n)
    (h0 : ∀ j, j < 4 → C[0 * 4 + j]? = x[j]?) (hcc : ∀ j, j < 4 → C[c * 4 + j]? = y[j]?)
    (h1 : ∀ q, C1[q]? = if 0 ≤ q ∧ q < 0 + 4 then y[q - 0]? else C[q]?) (h2 : ∀ q, C2[q]? = if c * 4 ≤ q ∧ q < c * 4 + 4 then x[q - c * 4]? else C1[q]?) :
    ∀ i j, i < n → j < 4 → C2[i * 4 + j]? = C[sw c i * 4 + j]? := by
  intro i j hi hj
  rw [h2, h1]
  unfold sw
  by_cases hic : i = c
  · subst hic
    rw [if_pos ⟨by omega, by omega⟩, show i * 4 + j - i * 4 = j by omega]
    by_cases h : i = 0
    · subst h; rw [if_pos rfl, h0 j hj]
    · rw [if_neg h, if_pos rfl, h0 j hj]
  · rw [if_neg (by omega)]
    by_cases h : i = 0
    · subst h
      rw [if_pos ⟨by omega, by omega⟩, if_pos rfl, hcc j hj]; congr 1; omega
    · rw [if_neg (by omega), if_neg h, if_neg hic]
theorem callsL_get {x : Fn} {k : Nat} {v : Int} (h : (callsL x)[k]? = some v) : ∃ cm : Nat, v = cm ∧ ((List.range 8).filter (callsTo x))[k]? = some cm ∧ callsTo x cm = true := by
  unfold callsL at h
  rw [List.getElem?_map] at h
  obtain ⟨cm, hm, rfl⟩ := Option.map_eq_some_iff.1 h
  exact ⟨cm, rfl, hm, (List.mem_filter.1 (List.mem_of_getElem? hm)).2⟩
theorem row_oneR {w : World} {b q : Nat} {v : Value} (h : w.cell? ⟨b, q, none⟩ = some v) : row? w b q 1 = some [v] :=
  row_of_cells (CellsAt.cons h (CellsAt.nil _ _ _)) 0 1 (by simp)
theorem own_addrR {α : Type} [Rp α] {F : Nat → Prop} {base : Nat} {e : TypeId} {w : World} {a : Option Addr} {n c : Nat} {xs : List α} (h : Own F base e w (.slice a n c) xs) (hn : 0 < n) : ∃ g cur, a = some ⟨g, 0, none⟩ ∧ n ≤ c ∧ c ≤ 9223372036854775807 ∧ base ≤ g ∧ w.heap[g]? = some (.cells cur e) ∧ cur.size = c * Rp.sz α := by
  obtain ⟨G, css, hG, hl', hR, hn', ho⟩ := h
  rcases id ho.2 with ⟨h0, h1⟩ | ⟨g, cap, cur, hv, hb, hg, hnc, hcm, hcs, _⟩
  · simp only [Value.slice.injEq] at h0; omega
  · simp only [Value.slice.injEq] at hv
    obtain ⟨rfl, e2, rfl⟩ := hv
    exact ⟨g, cur, rfl, by omega, by unfold maxLen at hcm; exact hcm, hb, hg, hcs⟩
theorem block_stayN {a b c : World} {k : Nat} (g : Grow b c) (h : b.heap[k]? = a.heap[k]?) (hk : k < a.heap.size) : c.heap[k]? = a.heap[k]? := by
  have e : a.heap[k]? = some a.heap[k] := Array.getElem?_eq_getElem hk
  rw [e] at h ⊢
  exact block_stay g h
/-- Worlds ahead of a store, and behind it. -/
def TwoW (W V : World) (a b : World) : Prop := ((∃ x, a = ext W x ∨ a = ext V x) → ∃ x, b = ext W x ∨ b = ext V x) ∧ ((∃ x, a = ext V x) → ∃ x, b = ext V x)
theorem TwoW.trans {W V a b c : World} (h : TwoW W V a b) (g : TwoW W V b c) : TwoW W V a c := ⟨fun q => g.1 (h.1 q), fun q => g.2 (h.2 q)⟩
theorem TwoW.of {W V a b : World} (h : Grow a b) : TwoW W V a b := by
  have key : ∀ U x, a = ext U x → ∃ y, b = ext U y := fun U x e => ext_of_grow (by have := (grow_ext U x).trans (e ▸ h); exact this)
  refine ⟨fun ⟨x, q⟩ => ?_, fun ⟨x, q⟩ => key V x q⟩
  rcases q with q | q
  · obtain ⟨y, e⟩ := key W x q; exact ⟨y, Or.inl e⟩
  · obtain ⟨y, e⟩ := key V x q; exact ⟨y, Or.inr e⟩
theorem TwoW.store {W V : World} {x : Ext} (a : World) : TwoW W V a (ext V x) := ⟨fun _ => ⟨x, Or.inr rfl⟩, fun _ => ⟨x, rfl⟩⟩
theorem take4 {C : Array Value} {o : Nat} {v0 v1 v2 v3 : Value} (h : ∀ j, j < 4 → C[o + j]? = [v0, v1, v2, v3][j]?) : List.take 4 (List.drop o C.toList) = [v0, v1, v2, v3] := by
  apply List.ext_getElem?
  intro j
  by_cases hj : j < 4
  · rw [List.getElem?_take_of_lt hj, List.getElem?_drop, ← h j hj]; simp
  · rw [List.getElem?_eq_none (by simp; omega), List.getElem?_eq_none (by simp; omega)]
/-- An element of a twin's row: its cells. -/
theorem fns_get {base : Nat} {w : World} {g n c : Nat} {fss : List FnS} {cur : Array Value} (h : Own (fun _ => False) base 50 w (.slice (some ⟨g, 0, none⟩) n c) fss) (hg : w.heap[g]? = some (.cells cur 50)) {i : Nat} (hi : i < n) :
    ∃ x la ln lc ba bn bc, fss[i]? = some x ∧ (∀ j, j < 4 → cur[i * 4 + j]? = (x.f.c (.slice la ln lc) (.slice ba bn bc))[j]?) := by
  have hsl := h.sl
  obtain ⟨b, off, x, cs, e, Hx, _, hR, hc⟩ := hsl.get i hi
  simp only [Option.some.injEq, Addr.mk.injEq, and_true] at e
  obtain ⟨rfl, rfl⟩ := e
  obtain ⟨la, ln, lc, ba, bn, bc, rfl, _⟩ := hR
  refine ⟨x, la, ln, lc, ba, bn, bc, Hx.out, fun j hj => ?_⟩
  have h4 : j < (x.f.c (.slice la ln lc) (.slice ba bn bc)).length := hj
  have := hc j h4
  simp only [World.cell?, hg, Nat.zero_add] at this
  rw [List.getElem?_eq_getElem h4, ← this]; rfl
/-- The exchanged program in memory: its box, and its functions. -/
structure QI8 (p13 g n qc base : Nat) (w : World) (gss : List FnS) : Prop where
  box : w.heap[p13]? = some (.cells #[.slice (some ⟨g, 0, none⟩) n qc] 43)
  own : Own (fun _ => False) base 50 w (.slice (some ⟨g, 0, none⟩) n qc) gss
  apart : Apart gss
theorem QI8.row {p13 g n qc base : Nat} {w : World} {gss : List FnS} (h : QI8 p13 g n qc base w gss) : row? w p13 0 1 = some [.slice (some ⟨g, 0, none⟩) n qc] ∧ w.cell? ⟨p13, 0, none⟩ = some (.slice (some ⟨g, 0, none⟩) n qc) := by
  have hc : w.cell? ⟨p13, 0, none⟩ = some (.slice (some ⟨g, 0, none⟩) n qc) := by simp only [World.cell?, h.box]; rfl
  exact ⟨row_oneR hc, hc⟩
theorem QI8.len {p13 g n qc base : Nat} {w : World} {gss : List FnS} (h : QI8 p13 g n qc base w gss) : gss.length = n := h.own.sl.len.symm
/-- What a step of the inner loop reads, and what a write of one call's number leaves. -/
theorem QI8.at {p13 g n qc base : Nat} {w : World} {gss : List FnS} (h : QI8 p13 g n qc base w gss) {k b : Nat} {f : Fn} {x : Bk} (hf : (gss.map FnS.f)[k]? = some f) (hx : f.blocks[b]? = some x) :
    ∃ (R bc : Nat) (cur : Array Value), w.cell? ⟨g, k * 4 + 3, none⟩ = some (.slice (some ⟨R, 0, none⟩) f.blocks.length bc) ∧ f.blocks.length ≤ bc ∧ bc ≤ 9223372036854775807 ∧ w.heap[R]? = some (.cells cur 63) ∧ R ≠ p13 ∧ base ≤ R ∧ x.wf ∧
      cur[b * 14 + 1]? = some (.int .u8 x.jump.kind) ∧ cur[b * 14 + 7]? = some (.int .i64 x.jump.fn) ∧
      ∀ (c : Int) (w' : World), I64 c → (∀ q, q < w.heap.size → q ≠ R → w'.heap[q]? = w.heap[q]?) → w.heap.size ≤ w'.heap.size → w'.heap[R]? = some (.cells (cur.setIfInBounds (b * 14 + 7) (.int .i64 c)) 63) →
        ∃ gss', QI8 p13 g n qc base w' gss' ∧ gss'.map FnS.f = (gss.map FnS.f).set k (fnB f b (bkJ x (juFn x.jump c))) := by
  rw [List.getElem?_map] at hf
  obtain ⟨y, hy, rfl⟩ := Option.map_eq_some_iff.1 hf
  obtain ⟨bA, n', capA, la, ln, lc, R, bn, bc, cur, sa, sn, sc, ja, jn, jc, lo, hi, hv, hbA, hcA, Hbn, hbnc, hbcm, hRc, hRA, hbR, hRlt, hcell, hbw, hargs, hin, hEf, hEs⟩ := own_atA h.own h.apart hy hx
  simp only [Value.slice.injEq, Option.some.injEq, Addr.mk.injEq, and_true] at hv
  obtain ⟨rfl, rfl, rfl⟩ := hv
  have hne : R ≠ p13 := by
    rintro rfl
    have := h.box
    rw [hRc] at this
    simp at this
  have h3 := hcA 3 (by show 3 < 4; omega)
  refine ⟨R, bc, cur, by rw [← Hbn.out]; exact h3, by rw [← Hbn.out]; exact hbnc, hbcm, hRc, hne, hbR, hbw, hcell 1 (by omega), hcell 7 (by omega), fun c w' hc hk hs hR' => ?_⟩
  refine ⟨gss.set k ⟨fnB y.f b (bkJ x (juFn x.jump c)), y.lo, y.hi⟩, ⟨?_, hEf c w' hc hk hs hR', h.apart.set hy _⟩, ?_⟩
  · rw [hk p13 (Array.getElem?_eq_some_iff.1 h.box).1 (fun e => hne e.symm)]; exact h.box
  · rw [List.map_set]
theorem inB_rec (p : Pr) (f c : Nat) : inB (reachL (qR p c)) ((sw c f : Nat) : Int) = recOne p f c := by
  rw [Bool.eq_iff_iff, inB_iff]; unfold recOne; rw [List.contains_iff_mem]
theorem any_next {p : Pr} {f k cm : Nat} {l : List Nat} (h : l[k]? = some cm) {s : Bool} (hs : s = (l.take k).any (recOne p f)) {b : Bool} (hb : b = (s || recOne p f cm)) : b = (l.take (k + 1)).any (recOne p f) := by
  rw [any_snoc (Lib.hid h), hb, hs]
theorem in_calls {x : Fn} {f : Nat} (h : inB (callsL x) (f : Int) = true) : callsTo x f = true := by
  rw [inB_iff] at h
  unfold callsL at h
  obtain ⟨k, hk, e⟩ := List.mem_map.1 h
  have e' : k = f := by omega
  subst e'
  exact (List.mem_filter.1 hk).2
end Go.Proofs.Ythackfblfkpddaa
