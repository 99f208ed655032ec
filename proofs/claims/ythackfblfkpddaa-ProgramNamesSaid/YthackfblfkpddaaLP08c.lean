/- Layer 8: what the law ProgramNames needs: functions that are made, programs in a row, and the plain facts. -/
import Derived.Test.YthackfblfkpddaaLP08b
import Derived.Test.YthackfblfkpddaaL08r
namespace Go.Proofs.Ythackfblfkpddaa
open Go.RowKit
set_option linter.unusedSimpArgs false
set_option linter.unusedVariables false

/-- v is the function x, whose memory has come since w. -/
def FnAt (w w' : World) (v : Value) (x : Fn) : Prop := ∃ la ln lc ba bn bc, v = x.v (.slice la ln lc) (.slice ba bn bc) ∧ Rp.R (fun k => w.heap.size ≤ k ∧ k < w'.heap.size) w' x (x.c (.slice la ln lc) (.slice ba bn bc))
theorem fnAt_of {w w' : World} {x : Fn} {la ba : Option Addr} {ln lc bn bc : Nat} (hw : I64 x.params) (h1 : Sl (New w) w' (.slice la ln lc) x.locals) (h2 : Sl (New w) w' (.slice ba bn bc) x.blocks) : FnAt w w' (x.v (.slice la ln lc) (.slice ba bn bc)) x :=
  ⟨la, ln, lc, ba, bn, bc, rfl, ⟨la, ln, lc, ba, bn, bc, rfl, ⟨hw⟩, h1.wide (fun k hk h => ⟨h, hk⟩), h2.wide (fun k hk h => ⟨h, hk⟩)⟩⟩
theorem sl_end {F : Nat → Prop} {w : World} {b : Nat} (hF : F b) (h : w.heap[b]? = some (.cells exCells 63)) : Sl F w (.slice (some ⟨b, 0, none⟩) 1 1) [exEnd] :=
  sl_row [exEnd] [exCells.toList] rfl (fun i h1 h2 => by
    obtain rfl : i = 0 := by simpa using h1
    exact R_end F w) hF h rfl (by decide)
abbrev F0 : Fn := leafF 0 [t10]
abbrev F1 : Fn := leafF 1 [t10, t10]
abbrev F2 : Fn := leafF 2 [t10, t10, t10]
abbrev C10 : Fn := callsF 1 []
abbrev C70 : Fn := callsF 7 []
abbrev C11 : Fn := callsF 1 [cO 0]
abbrev C02 : Fn := callsF 0 [cO 0, cO 1]
abbrev BR : Fn := ⟨0, false, List.replicate 17 ⟨0, 0⟩, [exEnd]⟩
abbrev SH : Fn := ⟨1, false, [t10, ⟨3, 1⟩], [exEnd]⟩
theorem leaf0_c (w : World) : Calls Try.prog 22 #[.int .i64 0] w (RetP w fun v w' => FnAt w w' v F0) :=
  (law08_leaf0 w).mono fun e w' h => by
    obtain ⟨rfl, rfl⟩ := h
    refine ⟨_, rfl, ?_, (by (repeat (first | (with_reducible exact Grow.refl _) | assumption | refine Grow.ext ?_ _ | refine Grow.alloc ?_ _ | refine Grow.drew ?_ | refine Grow.setCell ?_ (by first | (simp; done) | (simp; omega)) _ | refine Grow.trans ?_ (by assumption))))⟩
    have h1 : ∀ W : World, W.heap[w.heap.size + 1]? = some (.cells #[.int .u8 1, .int .u8 0] 23) → Sl (New w) W (.slice (some ⟨w.heap.size + 1, 0, none⟩) 1 1) [t10] := fun W h => sl_row [t10] [[.int .u8 1, .int .u8 0]] rfl (fun i h1 h2 => by
      obtain rfl : i = 0 := by simpa using h1
      exact ⟨rfl, ty10⟩) (by unfold New; omega) h rfl (by decide)
    exact fnAt_of (x := F0) (⟨by decide, by decide⟩ : I64 0) (h1 _ (by simp only [hp_alloc, hp_at, hp_ext, hp_drew])) (sl_end (by unfold New; omega) (by simp only [hp_alloc, hp_at, hp_ext, hp_drew]))
theorem leaf2_c (w : World) : Calls Try.prog 22 #[.int .i64 2] w (RetP w fun v w' => FnAt w w' v F2) :=
  (law08_leaf2 w).mono fun e w' h => by
    obtain ⟨_, rfl, ⟨la, lc, rfl, hl, hb⟩, g⟩ := h
    exact ⟨_, rfl, fnAt_of (x := F2) ⟨by decide, by decide⟩ hl (sl_end (by unfold New; omega) hb), g⟩
theorem callsF_c {n : Int} {k : Int} {ar : List Opd} (w : World) (h : Calls Try.prog 23 #[.int .i64 n, .int .i64 k] w (RetP w fun v w' => ∃ a1 c1 a2 c2, v = (callsF n ar).v (.slice a1 1 c1) (.slice a2 2 c2) ∧ Sl (New w) w' (.slice a1 1 c1) [t10] ∧ Sl (New w) w' (.slice a2 2 c2) (callsF n ar).blocks)) :
    Calls Try.prog 23 #[.int .i64 n, .int .i64 k] w (RetP w fun v w' => FnAt w w' v (callsF n ar)) :=
  h.mono fun e w' h => by
    obtain ⟨_, rfl, ⟨a1, c1, a2, c2, rfl, h1, h2⟩, g⟩ := h
    exact ⟨_, rfl, fnAt_of (x := callsF n ar) (⟨by decide, by decide⟩ : I64 0) h1 h2, g⟩
theorem c10_c (w : World) : Calls Try.prog 23 #[.int .i64 1, .int .i64 0] w (RetP w fun v w' => FnAt w w' v C10) := callsF_c w (law08_calls0 1 w ⟨by decide, by decide⟩)
theorem c70_c (w : World) : Calls Try.prog 23 #[.int .i64 7, .int .i64 0] w (RetP w fun v w' => FnAt w w' v C70) := callsF_c w (law08_calls0 7 w ⟨by decide, by decide⟩)
theorem c11_c (w : World) : Calls Try.prog 23 #[.int .i64 1, .int .i64 1] w (RetP w fun v w' => FnAt w w' v C11) := callsF_c w (law08_calls1 1 w ⟨by decide, by decide⟩)
theorem c02_c (w : World) : Calls Try.prog 23 #[.int .i64 0, .int .i64 2] w (RetP w fun v w' => FnAt w w' v C02) := callsF_c w (law08_calls2 0 w ⟨by decide, by decide⟩)
/-- A function as its cells. -/
def FnV (w : World) (v : Value) (x : Fn) : Prop := ∃ la ln lc ba bn bc, v = x.v (.slice la ln lc) (.slice ba bn bc) ∧ Rp.R (fun _ => True) w x (x.c (.slice la ln lc) (.slice ba bn bc))
theorem FnAt.v {w w' : World} {v : Value} {x : Fn} (h : FnAt w w' v x) : FnV w' v x := by
  obtain ⟨la, ln, lc, ba, bn, bc, e, h⟩ := h
  exact ⟨la, ln, lc, ba, bn, bc, e, Rp.wide (fun _ _ _ => trivial) h⟩
theorem FnV.mono {w w' : World} {v : Value} {x : Fn} (h : FnV w v x) (g : Grow w w') : FnV w' v x := by
  obtain ⟨la, ln, lc, ba, bn, bc, e, h⟩ := h
  exact ⟨la, ln, lc, ba, bn, bc, e, Rp.keep (Agr.of_grow g) h⟩
theorem leaf1_c (w : World) : Calls Try.prog 22 #[.int .i64 1] w (RetP w fun v w' => ∃ C cap B E, v = F1.v (.slice (some ⟨B, 0, none⟩) 2 cap) (.slice (some ⟨E, 0, none⟩) 1 1) ∧ 2 ≤ cap ∧ cap ≤ 9223372036854775807 ∧ w.heap.size ≤ B ∧ E ≠ B ∧ w'.heap[B]? = some (.cells C 23) ∧ Rows8 (fun _ => True) w C [t10, t10] ∧ w'.heap[E]? = some (.cells exCells 63)) :=
  (law08_leaf1 w).mono fun e w' h => by
    obtain ⟨_, rfl, ⟨C, cap, h1, h2, rfl, hB, hC, hE⟩, g⟩ := h
    exact ⟨_, rfl, ⟨C, cap, _, _, rfl, h1, h2, by omega, by omega, hB, hC, hE⟩, g⟩
theorem fn_parts {F : Nat → Prop} {w : World} {x : Fn} {la ba : Option Addr} {ln lc bn bc : Nat} (h : Rp.R F w x (x.c (.slice la ln lc) (.slice ba bn bc))) : Sl F w (.slice la ln lc) x.locals ∧ Sl F w (.slice ba bn bc) x.blocks := by
  obtain ⟨a, n, c, a', n', c', e, _, g0, g1⟩ := h
  simp only [List.cons.injEq, and_true, true_and] at e
  rw [e.1, e.2]; exact ⟨g0, g1⟩
theorem fn_mk {F : Nat → Prop} {w : World} {x : Fn} {la ba : Option Addr} {ln lc bn bc : Nat} (hw : I64 x.params) (h1 : Sl F w (.slice la ln lc) x.locals) (h2 : Sl F w (.slice ba bn bc) x.blocks) : Rp.R F w x (x.c (.slice la ln lc) (.slice ba bn bc)) := ⟨la, ln, lc, ba, bn, bc, rfl, ⟨hw⟩, h1, h2⟩
theorem rows_ty {w : World} {C : Array Value} (h : Rows8 (fun _ => True) w C [t10, t10]) : C[0]? = some (.int .u8 1) ∧ C[1]? = some (.int .u8 0) ∧ C[2]? = some (.int .u8 1) ∧ C[3]? = some (.int .u8 0) := by
  obtain ⟨cs, ⟨rfl, _⟩, h0⟩ := h 0 (by decide)
  obtain ⟨ds, ⟨rfl, _⟩, h1⟩ := h 1 (by decide)
  exact ⟨h0 0 (by decide), h0 1 (by decide), h1 0 (by decide), h1 1 (by decide)⟩
/-- Seventeen types that make() gives. -/
theorem zero17 : ∃ (i0 : TypeInfo) (z0 : Value), (Try.prog).info? 23 = some i0 ∧ i0.zero = some z0 ∧ i0.size = 2 ∧ i0.bytes = 2 ∧
    Hid (∀ (w' : World) (B g : Nat), w'.ownsRow B 23 2 (.slice (some ⟨g, 0, none⟩) 17 17) 17 (madeCells z0.cells (17 * 2)).toList → Own (fun _ => False) B 23 w' (.slice (some ⟨g, 0, none⟩) 17 17) (List.replicate 17 (⟨0, 0⟩ : Ty))) := by
  obtain ⟨i0, z0, hi, hz, hsize, hby, hzs⟩ := slT_ty8.ex
  refine ⟨i0, z0, hi, hz, hsize, hby, Lib.hid (fun w' B g h => ?_)⟩
  have e : i0.zero = some (.agg #[.int .u8 0, .int .u8 0]) := by
    have h := (by kernel_rfl : ((Try.prog).info? 23).map (fun i => i.zero) = some (some (.agg #[.int .u8 0, .int .u8 0])))
    rw [hi] at h; simpa using h
  rw [hz] at e; injection e with e; subst e
  refine ⟨fun _ => False, List.replicate 17 [.int .u8 0, .int .u8 0], fun _ h => h.elim, by rw [List.length_replicate, List.length_replicate], (fun i h h' => ?_), by rw [List.length_replicate]; omega, ?_⟩
  · rw [List.getElem_replicate, List.getElem_replicate]
    exact ⟨rfl, ⟨⟨by decide, by decide⟩, ⟨by decide, by decide⟩⟩⟩
  · rw [List.length_replicate]
    have z : (List.replicate 17 [Value.int .u8 0, .int .u8 0]).flatten = (madeCells (Value.agg #[.int .u8 0, .int .u8 0]).cells (17 * 2)).toList := by kernel_rfl
    rw [z]; exact h
theorem sh_cells {C : Array Value} (h0 : C[0]? = some (.int .u8 1)) (h1 : C[1]? = some (.int .u8 0)) (h2 : C[2]? = some (.int .u8 1)) (h3 : C[3]? = some (.int .u8 0)) :
    ∀ j (h : j < 4), ((List.take 2 C.toList ++ .int .u8 3 :: .int .u8 1 :: List.drop 4 C.toList).toArray)[j]? = [Value.int .u8 1, .int .u8 0, .int .u8 3, .int .u8 1][j]? := by
  have hs : 4 ≤ C.size := by have := (Array.getElem?_eq_some_iff.1 h3).1; omega
  have e : List.take 2 C.toList = [.int .u8 1, .int .u8 0] := by
    apply List.ext_getElem?
    intro i
    match i with
    | 0 => rw [List.getElem?_take]; simpa using h0
    | 1 => rw [List.getElem?_take]; simpa using h1
    | i + 2 => simp; omega
  intro j h
  rw [e]
  simp only [List.getElem?_toArray]
  match j with
  | 0 => rfl
  | 1 => rfl
  | 2 => rfl
  | 3 => rfl
theorem sl_two_ty {w : World} {b cap : Nat} {e : TypeId} {C : Array Value} {x y : Ty} (hg : w.heap[b]? = some (.cells C e)) (hC : ∀ j (h : j < 4), C[j]? = (x.c ++ y.c)[j]?) (h1 : 2 ≤ cap) (h2 : cap ≤ 9223372036854775807) (hx : x.wf := by exact ⟨⟨by decide, by decide⟩, ⟨by decide, by decide⟩⟩) (hy : y.wf := by exact ⟨⟨by decide, by decide⟩, ⟨by decide, by decide⟩⟩) :
    Sl (fun _ => True) w (.slice (some ⟨b, 0, none⟩) 2 cap) [x, y] := by
  refine ⟨_, cap, rfl, h1, h2, (fun h => by cases h), fun i hi => ⟨b, 0, rfl, trivial, (Array.getElem?_eq_some_iff.1 hg).1, ?_⟩⟩
  obtain rfl | rfl : i = 0 ∨ i = 1 := by simp at hi; omega
  · refine ⟨x.c, ⟨rfl, hx⟩, fun j hj => ?_⟩
    have hj2 : j < 2 := hj
    simp only [World.cell?, hg, Nat.zero_mul, Nat.zero_add]
    have := hC j (by omega)
    rw [List.getElem?_append_left hj, List.getElem?_eq_getElem hj] at this
    exact this
  · refine ⟨y.c, ⟨rfl, hy⟩, fun j hj => ?_⟩
    have hj2 : j < 2 := hj
    simp only [World.cell?, hg, Nat.one_mul, Nat.zero_add]
    have := hC (2 + j) (by omega)
    rw [List.getElem?_append_right (by show 2 ≤ 2 + j; omega), show 2 + j - x.c.length = j by show 2 + j - 2 = j; omega, List.getElem?_eq_getElem hj] at this
    exact this
/-- Programs in a row. -/
instance : Rp Pr where
  sz := 1
  R F w p cs := ∃ a n c, cs = [.slice a n c] ∧ Sl F w (.slice a n c) p.funcs
  len h := by obtain ⟨_, _, _, rfl, _⟩ := h; rfl
  keep g h := by obtain ⟨a, n, c, h1, h2⟩ := h; exact ⟨a, n, c, h1, h2.keep g⟩
  wide g h := by obtain ⟨a, n, c, h1, h2⟩ := h; exact ⟨a, n, c, h1, h2.wide g⟩
theorem Sl.pr {F : Nat → Prop} {w : World} {a : Option Addr} {n cap : Nat} {ps : List Pr} (h : Sl F w (.slice a n cap) ps) (i : Nat) (hi : i < n) : ∃ b off a' n' c' p, a = some ⟨b, off, none⟩ ∧ b < w.heap.size ∧ w.cell? ⟨b, off + i, none⟩ = some (.slice a' n' c') ∧ Hid (ps[i]? = some p) ∧ Sl F w (.slice a' n' c') p.funcs := by
  obtain ⟨b, off, x, cs, ha, hx, hlt, ⟨a', n', c', rfl, hs⟩, hc⟩ := h.get i hi
  exact ⟨b, off, a', n', c', x, ha, hlt.lt, by have := hc 0 (by simp); simpa [show Rp.sz Pr = 1 from rfl] using this, hx, hs⟩
theorem sl_fn1 {w : World} {b : Nat} {e : TypeId} {cells : Array Value} {x : Fn} {cx : List Value} (hx : Rp.R (fun _ => True) w x cx) (hg : w.heap[b]? = some (.cells cells e)) (hc : cells.toList = cx) : Sl (fun _ => True) w (.slice (some ⟨b, 0, none⟩) 1 1) [x] :=
  sl_row [x] [cx] rfl (fun i h h' => by
    obtain rfl : i = 0 := by simpa using h
    exact hx) trivial hg (by simpa using hc) (by simp)
theorem sl_fn2 {w : World} {b : Nat} {e : TypeId} {cells : Array Value} {x y : Fn} {cx cy : List Value} (hx : Rp.R (fun _ => True) w x cx) (hy : Rp.R (fun _ => True) w y cy) (hg : w.heap[b]? = some (.cells cells e)) (hc : cells.toList = cx ++ cy) : Sl (fun _ => True) w (.slice (some ⟨b, 0, none⟩) 2 2) [x, y] :=
  sl_row [x, y] [cx, cy] rfl (fun i h h' => by
    obtain rfl | rfl : i = 0 ∨ i = 1 := by simp at h; omega
    · exact hx
    · exact hy) trivial hg (by simpa using hc) (by simp)
theorem sl_fn3 {w : World} {b : Nat} {e : TypeId} {cells : Array Value} {x y z : Fn} {cx cy cz : List Value} (hx : Rp.R (fun _ => True) w x cx) (hy : Rp.R (fun _ => True) w y cy) (hz : Rp.R (fun _ => True) w z cz) (hg : w.heap[b]? = some (.cells cells e)) (hc : cells.toList = cx ++ (cy ++ cz)) : Sl (fun _ => True) w (.slice (some ⟨b, 0, none⟩) 3 3) [x, y, z] :=
  sl_row [x, y, z] [cx, cy, cz] rfl (fun i h h' => by
    obtain rfl | rfl | rfl : i = 0 ∨ i = 1 ∨ i = 2 := by simp at h; omega
    · exact hx
    · exact hy
    · exact hz) trivial hg (by simpa using hc) (by simp)
def badPs : List Pr := [⟨List.replicate 9 F0⟩, ⟨[]⟩, ⟨[F0, BR]⟩, ⟨[C10]⟩, ⟨[C11, F0]⟩, ⟨[C11, F2]⟩, ⟨[SH]⟩, ⟨[F0, C70]⟩]
def wantEs : List Int := [4, 8, 4, 8, 8, 8, 8, 8]
theorem sl_bads {w : World} {b : Nat} {e : TypeId} {cells : Array Value} {a0 a1 a2 a3 a4 a5 a6 a7 : Option Addr} {n0 n1 n2 n3 n4 n5 n6 n7 c0 c1 c2 c3 c4 c5 c6 c7 : Nat} (h0 : Sl (fun _ => True) w (.slice a0 n0 c0) (List.replicate 9 F0)) (h1 : Sl (fun _ => True) w (.slice a1 n1 c1) ([] : List Fn)) (h2 : Sl (fun _ => True) w (.slice a2 n2 c2) [F0, BR]) (h3 : Sl (fun _ => True) w (.slice a3 n3 c3) [C10])
    (h4 : Sl (fun _ => True) w (.slice a4 n4 c4) [C11, F0]) (h5 : Sl (fun _ => True) w (.slice a5 n5 c5) [C11, F2]) (h6 : Sl (fun _ => True) w (.slice a6 n6 c6) [SH]) (h7 : Sl (fun _ => True) w (.slice a7 n7 c7) [F0, C70])
    (hg : w.heap[b]? = some (.cells cells e)) (hc : cells.toList = [.slice a0 n0 c0, .slice a1 n1 c1, .slice a2 n2 c2, .slice a3 n3 c3, .slice a4 n4 c4, .slice a5 n5 c5, .slice a6 n6 c6, .slice a7 n7 c7]) : Sl (fun _ => True) w (.slice (some ⟨b, 0, none⟩) 8 8) badPs :=
  sl_row badPs [[.slice a0 n0 c0], [.slice a1 n1 c1], [.slice a2 n2 c2], [.slice a3 n3 c3], [.slice a4 n4 c4], [.slice a5 n5 c5], [.slice a6 n6 c6], [.slice a7 n7 c7]] rfl (fun i h h' => by
    match i, h, h' with
    | 0, _, _ => exact ⟨_, _, _, rfl, h0⟩
    | 1, _, _ => exact ⟨_, _, _, rfl, h1⟩
    | 2, _, _ => exact ⟨_, _, _, rfl, h2⟩
    | 3, _, _ => exact ⟨_, _, _, rfl, h3⟩
    | 4, _, _ => exact ⟨_, _, _, rfl, h4⟩
    | 5, _, _ => exact ⟨_, _, _, rfl, h5⟩
    | 6, _, _ => exact ⟨_, _, _, rfl, h6⟩
    | 7, _, _ => exact ⟨_, _, _, rfl, h7⟩
    | i + 8, h, _ => exact absurd h (by show ¬ i + 8 < 8; omega)) trivial hg hc (by decide)
theorem wants_64 : ∀ x ∈ wantEs, I64 x := by
  intro x hx
  simp only [wantEs, List.mem_cons, List.not_mem_nil, or_false] at hx
  unfold I64; omega
theorem sl_wants {w : World} {b : Nat} {e : TypeId} {cells : Array Value} (hg : w.heap[b]? = some (.cells cells e)) (hc : cells.toList = wantEs.map (fun x => Value.int .i64 x)) : Sl (fun _ => True) w (.slice (some ⟨b, 0, none⟩) 8 8) wantEs :=
  sl_row wantEs (wantEs.map (fun x => [Value.int .i64 x])) rfl (fun i h h' => ⟨by simp, wants_64 _ (List.getElem_mem h)⟩) trivial hg hc (by decide)
theorem bad_errs : badPs.map prErr = wantEs := by decide +kernel
theorem bad_at {i : Nat} {p : Pr} {e : Int} (hp : badPs[i]? = some p) (he : wantEs[i]? = some e) : prErr p = e ∧ e ≠ 0 := by
  have h := congrArg (·[i]?) bad_errs
  simp only [List.getElem?_map, hp, he, Option.map_some, Option.some.injEq] at h
  refine ⟨h, ?_⟩
  have hm := List.mem_of_getElem? he
  simp [wantEs] at hm
  omega
theorem inputs_bad {p : Pr} {e : Int} (h : prErr p = e) (h0 : e ≠ 0) : (inputsP p).2 = e := by
  unfold inputsP; rw [if_pos (by omega)]; exact h
theorem size_bad {p : Pr} {e : Int} (h : prErr p = e) (h0 : e ≠ 0) : (sizeP p).2 = e := by
  unfold sizeP; rw [if_pos (by omega)]; exact h
theorem rec_bad {p : Pr} {e : Int} (h : prErr p = e) (h0 : e ≠ 0) (f : Int) : (recP p f).2 = e := by
  unfold recP; rw [if_pos (by omega)]; exact h
abbrev eightP : Pr := ⟨List.replicate 8 F0⟩
abbrev twoP : Pr := ⟨[F2, C02, SH]⟩
theorem eight_ok : prErr eightP = 0 := by decide +kernel
theorem two_ok : prErr twoP = 0 := by decide +kernel
theorem two_in : inputsP twoP = (2, 0) := by decide +kernel
theorem two_r3 : recP twoP 3 = (false, 2) := by decide +kernel
theorem two_rm : recP twoP (-1) = (false, 2) := by decide +kernel
theorem two_reach : reachL twoP = [0] := by decide +kernel
theorem bad_inputs {p : Pr} {e : Int} (pv : Value) (w : World) {F : Nat → Prop} (hp : Sl F w pv p.funcs) (h : prErr p = e ∧ e ≠ 0) : Calls Try.prog 24 #[p.v pv] w (Ret w (.tuple #[.int .i64 (inputsP p).1, .int .i64 e])) := by
  have := program_Inputs p pv w hp; rw [inputs_bad h.1 h.2] at this; exact this
theorem bad_size {p : Pr} {e : Int} (pv : Value) (w : World) {F : Nat → Prop} (hp : Sl F w pv p.funcs) (h : prErr p = e ∧ e ≠ 0) : Calls Try.prog 25 #[p.v pv] w (Ret w (.tuple #[.int .i64 (sizeP p).1, .int .i64 e])) := by
  have := program_Size p pv w hp; rw [size_bad h.1 h.2] at this; exact this
theorem bad_reached {p : Pr} {e : Int} (pv : Value) (w : World) {F : Nat → Prop} (hp : Sl F w pv p.funcs) (h : prErr p = e ∧ e ≠ 0) : Calls Try.prog 20 #[p.v pv] w (Ret w (.tuple #[.slice none 0 0, .int .i64 e])) := by
  have := program_Reached_bad p pv w hp (by simpa [h.1] using h.2); rw [h.1] at this; exact this
theorem bad_rec {p : Pr} {e : Int} (pv : Value) (w : World) {F : Nat → Prop} (hp : Sl F w pv p.funcs) (h : prErr p = e ∧ e ≠ 0) : Calls Try.prog 17 #[p.v pv, .int .i64 (-1)] w (Ret w (.tuple #[.bool (recP p (-1)).1, .int .i64 e])) := by
  have := program_Recursive p pv (-1) w hp ⟨by decide, by decide⟩; rw [rec_bad h.1 h.2] at this; exact this
theorem is_check {p : Pr} {e : Int} (pv : Value) (w : World) {F : Nat → Prop} (hp : Sl F w pv p.funcs) (h : prErr p = e) : Calls Try.prog 26 #[p.v pv] w (Ret w (.int .i64 e)) := by
  have := program_Check p pv w hp; rw [h] at this; exact this
theorem is_inputs {p : Pr} {n e : Int} (pv : Value) (w : World) {F : Nat → Prop} (hp : Sl F w pv p.funcs) (h : inputsP p = (n, e)) : Calls Try.prog 24 #[p.v pv] w (Ret w (.tuple #[.int .i64 n, .int .i64 e])) := by
  have := program_Inputs p pv w hp; rw [h] at this; exact this
theorem is_rec {p : Pr} {f : Int} {b : Bool} {e : Int} (pv : Value) (w : World) {F : Nat → Prop} (hp : Sl F w pv p.funcs) (hf : I64 f) (h : recP p f = (b, e)) : Calls Try.prog 17 #[p.v pv, .int .i64 f] w (Ret w (.tuple #[.bool b, .int .i64 e])) := by
  have := program_Recursive p pv f w hp hf; rw [h] at this; exact this
theorem i64_3 : I64 3 := ⟨by decide, by decide⟩
theorem i64_m1 : I64 (-1) := ⟨by decide, by decide⟩
theorem row_one {w : World} {b q : Nat} {v : Value} (h : w.cell? ⟨b, q, none⟩ = some v) : row? w b q 1 = some [v] :=
  row_of_cells (CellsAt.cons h (CellsAt.nil _ _ _)) 0 1 (by simp)
theorem bad_get {w : World} {bb q : Nat} (h : Sl (fun _ => True) w (.slice (some ⟨bb, 0, none⟩) 8 8) badPs) (hq : q < 8) : ∃ a n c p, bb < w.heap.size ∧ w.cell? ⟨bb, q, none⟩ = some (.slice a n c) ∧ Hid (badPs[q]? = some p) ∧ Sl (fun _ => True) w (.slice a n c) p.funcs := by
  obtain ⟨b, off, a', n', c', p, e, hlt, hc, Hp, hs⟩ := h.pr q hq
  simp only [Option.some.injEq, Addr.mk.injEq, and_true] at e
  obtain ⟨rfl, rfl⟩ := e
  rw [Nat.zero_add] at hc
  exact ⟨a', n', c', p, hlt, hc, Hp, hs⟩
theorem want_get {w : World} {wb q : Nat} (h : Sl (fun _ => True) w (.slice (some ⟨wb, 0, none⟩) 8 8) wantEs) (hq : q < 8) : ∃ e, wb < w.heap.size ∧ w.cell? ⟨wb, q, none⟩ = some (.int .i64 e) ∧ Hid (wantEs[q]? = some e) := by
  obtain ⟨b, off, x, e, hx⟩ := h.int q hq
  simp only [Option.some.injEq, Addr.mk.injEq, and_true] at e
  obtain ⟨rfl, rfl⟩ := e
  have hc := hx.c0
  rw [Nat.zero_add] at hc
  exact ⟨x, hx.lt.lt, hc, hx.g⟩
theorem sl_take8 {w : World} {g c : Nat} (h : Sl (fun _ => True) w (.slice (some ⟨g, 0, none⟩) 9 c) (List.replicate 9 F0)) : Sl (fun _ => True) w (.slice (some ⟨g, 0, none⟩) 8 c) (List.replicate 8 F0) := by
  obtain ⟨a, cap, hv, h1, h2, h3, h⟩ := h
  simp only [Value.slice.injEq] at hv
  obtain ⟨rfl, -, rfl⟩ := hv
  refine ⟨_, c, rfl, by simp at h1 ⊢; omega, h2, h3, fun i hi => ?_⟩
  obtain ⟨b, off, e, hF, hb, cs, hR, hc⟩ := h i (by simp at hi ⊢; omega)
  rw [List.getElem_replicate] at hR
  exact ⟨b, off, e, hF, hb, cs, by rw [List.getElem_replicate]; exact hR, hc⟩
theorem own_addr {α : Type} [Rp α] {F : Nat → Prop} {base : Nat} {e : TypeId} {w : World} {a : Option Addr} {n c : Nat} {xs : List α} (h : Own F base e w (.slice a n c) xs) (hn : 0 < n) : ∃ g, a = some ⟨g, 0, none⟩ ∧ n ≤ c ∧ c ≤ 9223372036854775807 := by
  have hsl := h.sl
  have hl := hsl.len
  obtain ⟨G, css, hG, hl', hR, hn', ho⟩ := h
  rcases id ho.2 with ⟨h0, h1⟩ | ⟨g, cap, cur, hv, hb, hg, hnc, hcm, _⟩
  · simp only [Value.slice.injEq] at h0; omega
  · simp only [Value.slice.injEq] at hv
    obtain ⟨rfl, rfl, rfl⟩ := hv
    exact ⟨g, rfl, hnc, by unfold maxLen at hcm; exact hcm⟩
theorem cells_ne8 {w : World} {b o Z : Nat} {cs : List Value} {x : Value} {t : TypeId} (h : CellsAt w b o cs) (h2 : 2 ≤ cs.length) (hz : w.heap[Z]? = some (.cells #[x] t)) : b ≠ Z := by
  rintro rfl
  have h1 := h 1 (by omega)
  simp [World.cell?, hz] at h1
theorem Sl.ne8 {α : Type} [Rp α] {F : Nat → Prop} {w : World} {v : Value} {xs : List α} {Z : Nat} {x : Value} {t : TypeId} (hz : w.heap[Z]? = some (.cells #[x] t)) (hs : 2 ≤ Rp.sz α) (hR : ∀ (y : α) cs, Rp.R F w y cs → Rp.R (fun k => F k ∧ k ≠ Z) w y cs) (h : Sl F w v xs) : Sl (fun k => F k ∧ k ≠ Z) w v xs := by
  obtain ⟨a, cap, hv, h1, h2, h3, h⟩ := h
  refine ⟨a, cap, hv, h1, h2, h3, fun i hi => ?_⟩
  obtain ⟨b, off, e, hF, hb, cs, hr, hc⟩ := h i hi
  exact ⟨b, off, e, ⟨hF, cells_ne8 hc (by rw [Rp.len hr]; exact hs) hz⟩, hb, cs, hR _ _ hr, hc⟩
theorem bk_ne8 {F : Nat → Prop} {w : World} {Z : Nat} {x : Value} {t : TypeId} (hz : w.heap[Z]? = some (.cells #[x] t)) (y : Bk) (cs : List Value) (h : Rp.R F w y cs) : Rp.R (fun k => F k ∧ k ≠ Z) w y cs := by
  obtain ⟨a, n, c, a', n', c', h1, h2, g0, g1⟩ := h
  exact ⟨a, n, c, a', n', c', h1, h2, g0.ne8 hz (by decide) (fun _ _ h => h), g1.ne8 hz (by decide) (fun _ _ h => h)⟩
theorem fn_ne8 {F : Nat → Prop} {w : World} {Z : Nat} {x : Value} {t : TypeId} (hz : w.heap[Z]? = some (.cells #[x] t)) (y : Fn) (cs : List Value) (h : Rp.R F w y cs) : Rp.R (fun k => F k ∧ k ≠ Z) w y cs := by
  obtain ⟨a, n, c, a', n', c', h1, h2, g0, g1⟩ := h
  exact ⟨a, n, c, a', n', c', h1, h2, g0.ne8 hz (by decide) (fun _ _ h => h), g1.ne8 hz (by decide) (bk_ne8 hz)⟩
theorem sl_box8 {w w' : World} {v : Value} {fs : List Fn} {Z : Nat} {x : Value} {t : TypeId} (h : Sl (fun _ => True) w v fs) (hz : w.heap[Z]? = some (.cells #[x] t)) (g : Agr (fun k => k ≠ Z) w w') : Sl (fun _ => True) w' v fs :=
  ((h.ne8 hz (by decide) (fn_ne8 hz)).keep (fun k hk hl => g k hk.2 hl)).wide (fun _ _ _ => trivial)
theorem sl_zero1 {w : World} {b : Nat} {e : TypeId} {cells : Array Value} (hg : w.heap[b]? = some (.cells cells e)) (hc : cells.toList = [.int .i64 0]) : Sl (fun _ => True) w (.slice (some ⟨b, 0, none⟩) 1 1) [(0 : Int)] :=
  sl_row [(0 : Int)] [[.int .i64 0]] rfl (fun i h h' => by
    obtain rfl : i = 0 := by simpa using h
    exact ⟨rfl, (⟨by decide, by decide⟩ : I64 0)⟩) trivial hg hc (by decide)
end Go.Proofs.Ythackfblfkpddaa
